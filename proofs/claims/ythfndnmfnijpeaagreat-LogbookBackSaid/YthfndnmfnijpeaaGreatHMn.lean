/- Differences of longitude: fixed.Quotient, midlatitude.Dlon (lines of Za .. Zd, without what they rest on for cells). -/
import Derived.Deep.RegionLaw
import Derived.Test.YthfndnmfnijpeaaGreatHVa
import Derived.Test.YthfndnmfnijpeaaGreatHUh
set_option linter.unusedVariables false
set_option linter.unusedSimpArgs false
namespace Go.Proofs.YthfndnmfnijpeaaGreat
open Go.RowKit
theorem ret_bool {a b : Bool} (h : a = b) : Ending.returned (.bool a) = .returned (.bool b) := by rw [h]
theorem tmod_cases (n : Int) : (0 ≤ n ∧ n.tmod 21600000 = n % 21600000) ∨ (n < 0 ∧ n.tmod 21600000 = -((-n) % 21600000)) := by
  by_cases h : 0 ≤ n
  · exact .inl ⟨h, Int.tmod_eq_emod_of_nonneg h⟩
  · refine .inr ⟨by omega, ?_⟩
    have h1 : (-n).tmod 21600000 = (-n) % 21600000 := Int.tmod_eq_emod_of_nonneg (by omega)
    rw [Int.neg_tmod] at h1
    omega
theorem tmod_pos {n : Int} (h : 0 ≤ n.tmod 21600000) : n.tmod 21600000 = n % 21600000 := by
  rcases tmod_cases n with ⟨h1, h2⟩ | ⟨h1, h2⟩ <;> omega
theorem tmod_neg {n : Int} (h : n.tmod 21600000 < 0) : n.tmod 21600000 + 21600000 = n % 21600000 := by
  rcases tmod_cases n with ⟨h1, h2⟩ | ⟨h1, h2⟩ <;> omega
theorem vint {k : IntKind} {a b : Int} (h : a = b) : Value.int k a = Value.int k b := by rw [h]
/-- whether a number may be the end of a range -/
def rchB (n : Int) : Bool := decide (-1099511627776 ≤ n ∧ n ≤ 1099511627776)
theorem factor_any (n : Int) (w : World) : Calls Tryz.prog 144 #[.int .i64 n] w fun e w' => e = .returned (.bool (rchB n)) ∧ w' = w := by
  unfold rchB
  go_enter Tryz.func144, Tryz.ntmps144
  go_wp2
  all_goals
    go_ret
    exact ⟨ret_bool (by first | rfl | (simp_all; done) | (simp_all; omega)), rfl⟩
theorem fzero_no (p q : Int) (w : World) (hp : 0 < p) : Calls Tryz.prog 145 #[.agg #[.int .i64 p, .int .i64 q]] w fun e w' => e = .returned (.bool false) ∧ Below w.heap.size w w' := by
  have d : decide (p ≤ 0) = false := decide_eq_false (by omega)
  go_enter Tryz.func145, Tryz.ntmps145
  go_wp2
  go_ret
  refine ⟨rfl, ?_⟩
  repeat (first | exact Below.refl _ _ | assumption | refine bl_drew ?_ | refine bl_drewN ?_ _ | refine Below.setCell ?_ (by first | assumption | omega | (simp; done) | (simp; omega)) _ | refine Below.alloc ?_ (by first | assumption | omega | (simp; done) | (simp; omega)) _)
/-- the least range of the quotients of the unit by an interval, times a number -/
def qtA (n p q : Int) : Int := min (1073741824 * n / p) (1073741824 * n / q)
def qtB (n p q : Int) : Int := max (-(-(1073741824 * n) / p)) (-(-(1073741824 * n) / q))
def qtG (n p q : Int) : Bool := rchB (qtA n p q) && rchB (qtB n p q)
def qtV (n p q : Int) : Value := if qtG n p q = true then .tuple #[.int .i64 (qtA n p q), .int .i64 (qtB n p q), .int .i64 0] else .tuple #[.int .i64 0, .int .i64 0, .int .i64 5]
theorem unit_bd {n : Int} (n0 : -16777216 ≤ n) (n1 : n ≤ 16777216) : -18014398509481984 ≤ 1073741824 * n ∧ 1073741824 * n ≤ 18014398509481984 := by omega
theorem encl_any (n d : Int) (w : World) (n0 : -16777216 ≤ n) (n1 : n ≤ 16777216) (d0 : 0 < d) (d1 : d ≤ 2147483648) :
    Calls Tryz.prog 146 #[.int .i64 1073741824, .int .i64 n, .int .i64 d] w fun e w' => e = .returned (.tuple #[.int .i64 (1073741824 * n / d), .int .i64 (-(-(1073741824 * n) / d)), .int .i64 0]) ∧ Below w.heap.size w w' := by
  obtain ⟨u0, u1⟩ := unit_bd n0 n1
  have hw : wab d = d := wab_pos (by omega)
  have h := enclose_any 1073741824 n d w (by omega) (by omega) (by omega) (by omega) (by omega) (by omega) (by omega) (by omega) (by
    rw [hw]
    have := wab_le (n := 1073741824 * n) (B := 18014398509481984) u0 u1
    omega)
  rw [qup_down d0, qup_up d0] at h
  exact h
/-- eight cells that are known: the pairs of ends -/
structure Q8 (W : World) (g : Nat) (p q : Int) : Prop where
  lt : g < W.heap.size
  c0 : W.cell? ⟨g, 0, none⟩ = some (.int .i64 1073741824)
  c1 : W.cell? ⟨g, 1, none⟩ = some (.int .i64 p)
  c2 : W.cell? ⟨g, 2, none⟩ = some (.int .i64 1073741824)
  c3 : W.cell? ⟨g, 3, none⟩ = some (.int .i64 q)
  c4 : W.cell? ⟨g, 4, none⟩ = some (.int .i64 1073741824)
  c5 : W.cell? ⟨g, 5, none⟩ = some (.int .i64 p)
  c6 : W.cell? ⟨g, 6, none⟩ = some (.int .i64 1073741824)
  c7 : W.cell? ⟨g, 7, none⟩ = some (.int .i64 q)
theorem Q8.below {W W' : World} {g B : Nat} {p q : Int} (h : Q8 W g p q) (hb : Below B W W') (hB : g < B) : Q8 W' g p q :=
  ⟨Nat.lt_of_lt_of_le h.lt hb.size, (hb.cell (p := ⟨g, 0, none⟩) hB).trans h.c0, (hb.cell (p := ⟨g, 1, none⟩) hB).trans h.c1, (hb.cell (p := ⟨g, 2, none⟩) hB).trans h.c2, (hb.cell (p := ⟨g, 3, none⟩) hB).trans h.c3,
   (hb.cell (p := ⟨g, 4, none⟩) hB).trans h.c4, (hb.cell (p := ⟨g, 5, none⟩) hB).trans h.c5, (hb.cell (p := ⟨g, 6, none⟩) hB).trans h.c6, (hb.cell (p := ⟨g, 7, none⟩) hB).trans h.c7⟩
theorem Q8.new (W : World) (p q : Int) (t : TypeId) : Q8 (W.alloc (.cells #[.int .i64 1073741824, .int .i64 p, .int .i64 1073741824, .int .i64 q, .int .i64 1073741824, .int .i64 p, .int .i64 1073741824, .int .i64 q] t)) W.heap.size p q :=
  ⟨by simp, by simp, by simp, by simp, by simp, by simp, by simp, by simp, by simp⟩
/-- the least, and the greatest, of the first numbers -/
def loK (x y : Int) : Nat → Int
  | 0 => 0
  | 1 => x
  | _ => min x y
def hiK (x y : Int) : Nat → Int
  | 0 => 0
  | 1 => x
  | _ => max x y
set_option maxHeartbeats 4000000 in
set_option maxRecDepth 100000 in
theorem Quotient_any (n p q : Int) (w : World) (n0 : -16777216 ≤ n) (n1 : n ≤ 16777216) (p0 : 0 < p) (pq : p ≤ q) (q1 : q ≤ 1073741824) :
    Calls Tryz.prog 109 #[.agg #[.int .i64 1073741824, .int .i64 1073741824], .agg #[.int .i64 p, .int .i64 q], .int .i64 n] w fun e w' => e = .returned (qtV n p q) ∧ Below w.heap.size w w' := by
  have KB := Lib.hid (fun W => both_any 1073741824 1073741824 p q W (by rw [fv_iff]; omega) (by rw [fv_iff]; omega))
  have KF := Lib.hid (fun W => factor_any n W)
  have hf : rchB n = true := by unfold rchB; rw [decide_eq_true_iff]; omega
  rw [hf] at KF
  have KZ := Lib.hid (fun W => fzero_no p q W p0)
  have KP := Lib.hid (fun W => encl_any n p W n0 n1 p0 (by omega))
  have KQ := Lib.hid (fun W => encl_any n q W n0 n1 (by omega) (by omega))
  have KA := Lib.hid (fun W => factor_any (qtA n p q) W)
  have KC := Lib.hid (fun W => factor_any (qtB n p q) W)
  have ha : qtA n p q = min (1073741824 * n / p) (1073741824 * n / q) := rfl
  have hb : qtB n p q = max (-(-(1073741824 * n) / p)) (-(-(1073741824 * n) / q)) := rfl
  unfold qtV qtG
  generalize 1073741824 * n / p = x at *
  generalize 1073741824 * n / q = y at *
  generalize -(-(1073741824 * n) / p) = u at *
  generalize -(-(1073741824 * n) / q) = v at *
  generalize qtA n p q = A at *
  generalize qtB n p q = C at *
  clear hf n0 n1 p0 pq q1
  obtain ⟨R, hR⟩ : ∃ R, (if (rchB A && rchB C) = true then Value.tuple #[.int .i64 A, .int .i64 C, .int .i64 0] else .tuple #[.int .i64 0, .int .i64 0, .int .i64 5]) = R := ⟨_, rfl⟩
  rw [hR]
  have HR := Lib.hid hR
  clear hR
  go_enter Tryz.func109, Tryz.ntmps109
  go_wp2_with fail
  (with_reducible refine (KB.out _).mono ?_)
  rintro e w1 ⟨rfl, hb1⟩
  have hbl1 := two_bl hb1
  have hz1 := two_lt hb1
  have X1 := Lib.hid (((D2.new w 1073741824 1073741824 171).alloc (.cells #[.int .i64 p, .int .i64 q] 171)).below hb1 (by simp; omega))
  have Y1 := Lib.hid ((D2.new (w.alloc (.cells #[.int .i64 1073741824, .int .i64 1073741824] 171)) p q 171).below hb1 (by simp))
  simp only [World.size_alloc] at Y1
  clear hb1
  go_wp2_with fail
  (with_reducible refine (KF.out _).mono ?_)
  rintro e w2 ⟨rfl, rfl⟩
  obtain ⟨yt, y0, y1, yf0, yf1⟩ := Y1.out
  go_wp2_with fail
  (with_reducible refine (KZ.out _).mono ?_)
  rintro e w3 ⟨rfl, hb3⟩
  have hbl3 := hbl1.trans (hb3.mono hbl1.size)
  have X3 := Lib.hid (X1.out.below hb3 X1.out.lt)
  have Y3 := Lib.hid (Y1.out.below hb3 Y1.out.lt)
  clear yt y0 y1 yf0 yf1 hb3
  obtain ⟨yt, y0, y1, yf0, yf1⟩ := Y3.out
  obtain ⟨xt, x0, x1, xf0, xf1⟩ := X3.out
  go_wp2_with fail
  go_loopw [9, 10, 50] (fun s9 s10 s50 wr => ∃ k : Nat, k ≤ 4 ∧ s50 = .int .i64 k ∧ s9 = .int .i64 (loK x y k) ∧ s10 = .int .i64 (hiK u v k) ∧ Q8 wr w3.heap.size p q ∧ Below w.heap.size w wr) (fun _ _ s50 _ => 4 - (intOf s50).toNat)
  case atStart => exact ⟨0, by omega, rfl, rfl, rfl, Q8.new w3 p q _, hbl3.alloc hbl3.size _⟩
  case round =>
    obtain ⟨k, hk, rfl, rfl, rfl, hQ, hbr⟩ := hrel
    have HQ := Lib.hid hQ
    obtain ⟨qt, c0, c1, c2, c3, c4, c5, c6, c7⟩ := hQ
    have hcase : k = 0 ∨ k = 1 ∨ k = 2 ∨ k = 3 ∨ k = 4 := by omega
    clear hk
    rcases hcase with rfl | rfl | rfl | rfl | rfl
    case inr.inr.inr.inr =>
      have e1 : loK x y 4 = A := ha.symm
      have e2 : hiK u v 4 = C := hb.symm
      rw [e1, e2]
      clear e1 e2 ha hb c0 c1 c2 c3 c4 c5 c6 c7
      generalize rchB A = s at *
      generalize rchB C = t at *
      cases s with
      | false =>
        have HE := Lib.hid HR.out.symm
        clear HR
        go_wp2_with (go_at_call 144; (with_reducible refine (KA.out _).mono ?_); rintro e w9 ⟨rfl, rfl⟩)
        go_ret3
        exact ⟨by rw [HE.out]; rfl, hbr⟩
      | true =>
        cases t
        all_goals
          have HE := Lib.hid HR.out.symm
          clear HR
          go_wp2_with (go_at_call 144; (first | (with_reducible refine (KA.out _).mono ?_) | (with_reducible refine (KC.out _).mono ?_)); rintro e w9 ⟨rfl, rfl⟩)
          go_ret3
          exact ⟨by rw [HE.out]; rfl, hbr⟩
    all_goals
      go_wp2_with fail
      (first | (with_reducible refine (KP.out _).mono ?_) | (with_reducible refine (KQ.out _).mono ?_))
      rintro e w9 ⟨rfl, hb9⟩
      have hbl9 := hbr.trans ((one_bl hb9).mono hbr.size)
      have Q9 := Lib.hid (HQ.out.below (one_bl hb9) HQ.out.lt)
      clear hb9 c0 c1 c2 c3 c4 c5 c6 c7
      go_wp2
      go_roundw
      case rel =>
        first
          | exact ⟨1, by omega, by go_num, by simp [loK], by simp [hiK], Q9.out, hbl9⟩
          | exact ⟨2, by omega, by go_num, by simp [loK], by simp [hiK], Q9.out, hbl9⟩
          | exact ⟨3, by omega, by go_num, vint (by show min (min x y) x = min x y; omega), vint (by show max (max u v) u = max u v; omega), Q9.out, hbl9⟩
          | exact ⟨4, by omega, by go_num, vint (by show min (min x y) y = min x y; omega), vint (by show max (max u v) v = max u v; omega), Q9.out, hbl9⟩
          | (trace_state; fail)
      case measure => simp [intOf]
theorem fits_any (n : Int) (w : World) : Calls Tryz.prog 53 #[.int .i64 n] w fun e w' => e = .returned (.bool (rchB n)) ∧ w' = w := by
  unfold rchB
  go_enter Tryz.func53, Tryz.ntmps53
  go_wp2
  all_goals
    go_ret
    exact ⟨ret_bool (by first | rfl | (simp_all; done) | (simp_all; omega)), rfl⟩
theorem av_parts (lo hi : Int) : avB lo hi = (decide (lo ≤ hi) && rchB lo && rchB hi) := by
  unfold avB rchB
  rw [Bool.eq_iff_iff]
  simp only [Bool.and_eq_true, decide_eq_true_eq]
  omega
set_option maxHeartbeats 400000 in
theorem aValid_any (lo hi : Int) (w : World) : Calls Tryz.prog 22 #[.agg #[.int .i64 lo, .int .i64 hi]] w fun e w' => e = .returned (.bool (avB lo hi)) ∧ Below w.heap.size w w' := by
  have KL := Lib.hid (fun W => fits_any lo W)
  have KH := Lib.hid (fun W => fits_any hi W)
  rw [av_parts]
  generalize rchB lo = s at *
  generalize rchB hi = t at *
  by_cases h : lo ≤ hi
  · have d : decide (lo ≤ hi) = true := decide_eq_true h
    rw [d]
    cases s
    · go_enter Tryz.func22, Tryz.ntmps22
      go_wp2_with (go_at_call 53; (with_reducible refine (KL.out _).mono ?_); rintro e w9 ⟨rfl, rfl⟩)
      go_ret
      refine ⟨rfl, ?_⟩
      repeat (first | exact Below.refl _ _ | assumption | refine bl_drew ?_ | refine bl_drewN ?_ _ | refine Below.setCell ?_ (by first | assumption | omega | (simp; done) | (simp; omega)) _ | refine Below.alloc ?_ (by first | assumption | omega | (simp; done) | (simp; omega)) _)
    · cases t
      all_goals
        go_enter Tryz.func22, Tryz.ntmps22
        go_wp2_with (go_at_call 53; (first | (with_reducible refine (KL.out _).mono ?_) | (with_reducible refine (KH.out _).mono ?_)); rintro e w9 ⟨rfl, rfl⟩)
        go_ret
        refine ⟨rfl, ?_⟩
        repeat (first | exact Below.refl _ _ | assumption | refine bl_drew ?_ | refine bl_drewN ?_ _ | refine Below.setCell ?_ (by first | assumption | omega | (simp; done) | (simp; omega)) _ | refine Below.alloc ?_ (by first | assumption | omega | (simp; done) | (simp; omega)) _)
  · have d : decide (lo ≤ hi) = false := decide_eq_false h
    rw [d]
    go_enter Tryz.func22, Tryz.ntmps22
    go_wp2
    go_ret
    refine ⟨rfl, ?_⟩
    repeat (first | exact Below.refl _ _ | assumption | refine bl_drew ?_ | refine bl_drewN ?_ _ | refine Below.setCell ?_ (by first | assumption | omega | (simp; done) | (simp; omega)) _ | refine Below.alloc ?_ (by first | assumption | omega | (simp; done) | (simp; omega)) _)
/-- whether an arc is from -HalfTurn to HalfTurn -/
def smB (lo hi : Int) : Bool := decide (-10800000 ≤ lo ∧ lo ≤ hi ∧ hi ≤ 10800000)
theorem sm_iff {lo hi : Int} : smB lo hi = true ↔ (-10800000 ≤ lo ∧ lo ≤ hi ∧ hi ≤ 10800000) := by unfold smB; exact decide_eq_true_iff
theorem sm_av {lo hi : Int} (h : smB lo hi = true) : avB lo hi = true := by
  rw [sm_iff] at h
  rw [avB_true]
  omega
theorem one_D2 {w w1 : World} {a b : Int} {t : TypeId} (hb : Below (w.alloc (.cells #[.int .i64 a, .int .i64 b] t)).heap.size (w.alloc (.cells #[.int .i64 a, .int .i64 b] t)) w1) : Below w.heap.size w w1 ∧ D2 w1 w.heap.size a b :=
  ⟨one_bl hb, (D2.new w a b t).below hb (by simp)⟩
set_option maxHeartbeats 400000 in
theorem latitude_yes (lo hi : Int) (w : World) (h0 : -5400000 ≤ lo) (h1 : lo ≤ hi) (h2 : hi ≤ 5400000) : Calls Tryz.prog 105 #[.agg #[.int .i64 lo, .int .i64 hi]] w fun e w' => e = .returned (.bool true) ∧ Below w.heap.size w w' := by
  have KV := Lib.hid (fun W => aValid_any lo hi W)
  have hv : avB lo hi = true := by rw [avB_true]; omega
  rw [hv] at KV
  have d2 : decide (hi ≤ 5400000) = true := decide_eq_true h2
  clear hv
  go_enter Tryz.func105, Tryz.ntmps105
  go_wp2_with fail
  (with_reducible refine (KV.out _).mono ?_)
  rintro e w1 ⟨rfl, hb1⟩
  obtain ⟨hb1', D1⟩ := one_D2 hb1
  obtain ⟨dt, d0, d1, df0, df1⟩ := D1
  clear hb1
  go_wp2
  all_goals
    go_ret
    exact ⟨ret_bool (by first | rfl | (simp_all; done) | (simp_all; omega)), hb1'⟩
/-- a number as a longitude -/
def sgT (n : Int) : Int := if 10800000 ≤ n % 21600000 then n % 21600000 - 21600000 else n % 21600000
set_option maxHeartbeats 400000 in
theorem Wrap_far (n : Int) (w : World) : Calls Tryz.prog 111 #[.int .i64 n] w fun e w' => e = .returned (.int .i64 (n % 21600000)) ∧ Below w.heap.size w w' := by
  go_enter Tryz.func111, Tryz.ntmps111
  go_wp2
  all_goals
    go_ret
    refine ⟨ret_int ?_, ?_⟩
    · first | (exact tmod_pos (by assumption)) | (rw [IntWalk.wrap64_in _ (by have := tmod_neg (n := n) (by assumption); omega)]; exact tmod_neg (by assumption))
    · repeat (first | exact Below.refl _ _ | assumption | refine bl_drew ?_ | refine bl_drewN ?_ _ | refine Below.setCell ?_ (by first | assumption | omega | (simp; done) | (simp; omega)) _ | refine Below.alloc ?_ (by first | assumption | omega | (simp; done) | (simp; omega)) _)
set_option maxHeartbeats 400000 in
theorem Signed_any (n : Int) (w : World) : Calls Tryz.prog 82 #[.int .i64 n] w fun e w' => e = .returned (.int .i64 (sgT n)) ∧ Below w.heap.size w w' := by
  have K := Lib.hid (fun W => Wrap_far n W)
  have hm : 0 ≤ n % 21600000 ∧ n % 21600000 < 21600000 := by omega
  unfold sgT
  generalize n % 21600000 = m at *
  by_cases h : 10800000 ≤ m
  all_goals
    first | rw [if_pos h] | rw [if_neg h]
    go_enter Tryz.func82, Tryz.ntmps82
    go_wp2_with fail
    (with_reducible refine (K.out _).mono ?_)
    rintro e w1 ⟨rfl, hb1⟩
    go_wp2
    go_ret
    exact ⟨rfl, hb1⟩
theorem qt_le (n : Int) {p q : Int} (hp : 0 < p) : qtA n p q ≤ qtB n p q := by
  unfold qtA qtB
  generalize 1073741824 * n = m
  have h1 := Int.ediv_mul_le m (show p ≠ 0 by omega)
  have h2 := Int.ediv_mul_le (-m) (show p ≠ 0 by omega)
  have h3 : m / p ≤ -(-m / p) := by
    have h4 : (m / p + -m / p) * p ≤ 0 := by rw [Int.add_mul]; omega
    have h5 : m / p + -m / p ≤ 0 := by
      refine Int.not_lt.1 fun h => ?_
      have := Int.mul_pos h hp
      omega
    omega
  generalize m / p = x at *
  generalize -m / p = y at *
  generalize m / q = z at *
  generalize -m / q = u at *
  omega
def dlG (a b p q : Int) : Bool := qtG a p q && qtG b p q
def dlA (a b p q : Int) : Int := min (qtA a p q) (qtA b p q)
def dlB (a b p q : Int) : Int := max (qtB a p q) (qtB b p q)
def dlV (a b p q : Int) : Value := if dlG a b p q = true then .tuple #[.agg #[.int .i64 (dlA a b p q), .int .i64 (dlB a b p q)], .int .i64 0] else .tuple #[.agg #[.int .i64 0, .int .i64 0], .int .i64 5]
theorem rch_iff {n : Int} : rchB n = true ↔ (-1099511627776 ≤ n ∧ n ≤ 1099511627776) := by unfold rchB; exact decide_eq_true_iff
theorem qtG_iff {n p q : Int} : qtG n p q = true ↔ (-1099511627776 ≤ qtA n p q ∧ qtA n p q ≤ 1099511627776 ∧ -1099511627776 ≤ qtB n p q ∧ qtB n p q ≤ 1099511627776) := by
  unfold qtG
  rw [Bool.and_eq_true, rch_iff, rch_iff]
  omega
theorem dl_av {a b p q : Int} (hp : 0 < p) (ha : qtG a p q = true) (hb : qtG b p q = true) : avB (min (qtA a p q) (qtA b p q)) (max (qtB a p q) (qtB b p q)) = true := by
  rw [qtG_iff] at ha hb
  have h1 := qt_le a (q := q) hp
  rw [avB_true]
  omega
set_option maxHeartbeats 1000000 in
theorem Dlon1_any (n p q : Int) (g8 g6 : Nat) (w : World) (h8 : D2 w g8 1073741824 1073741824) (h6 : D2 w g6 p q) (n0 : -16777216 ≤ n) (n1 : n ≤ 16777216) (p0 : 0 < p) (pq : p ≤ q) (q1 : q ≤ 1073741824) :
    Calls Tryz.prog 108 #[.int .i64 n, .pointer (some ⟨g8, 0, none⟩), .pointer (some ⟨g6, 0, none⟩)] w fun e w' => e = .returned (qtV n p q) ∧ Below w.heap.size w w' := by
  have K := Lib.hid (fun W => Quotient_any n p q W n0 n1 p0 pq q1)
  obtain ⟨at1, a0, a1, af0, af1⟩ := h8
  obtain ⟨bt1, b0, b1, bf0, bf1⟩ := h6
  clear n0 n1 p0 pq q1
  unfold qtV at *
  generalize qtG n p q = s at *
  generalize qtA n p q = A at *
  generalize qtB n p q = B at *
  cases s
  all_goals
    simp only [Bool.false_eq_true, if_false, if_true] at *
    go_enter Tryz.func108, Tryz.ntmps108
    go_wp2_with fail
    (with_reducible refine (K.out _).mono ?_)
    rintro e w1 ⟨rfl, hb1⟩
    go_wp2
    go_ret3
    exact ⟨rfl, hb1⟩
def oA (x y : Int) : Nat → Int
  | 0 => 0
  | 1 => x
  | _ => min x y
def oB (x y : Int) : Nat → Int
  | 0 => 0
  | 1 => x
  | _ => max x y
set_option maxHeartbeats 4000000 in
set_option maxRecDepth 100000 in
theorem both_dlon (a b p q : Int) (g8 g6 : Nat) (w : World) (h8 : D2 w g8 1073741824 1073741824) (h6 : D2 w g6 p q) (a0 : -16777216 ≤ a) (a1 : a ≤ 16777216) (b0 : -16777216 ≤ b) (b1 : b ≤ 16777216) (p0 : 0 < p) (pq : p ≤ q) (q1 : q ≤ 1073741824) :
    Calls Tryz.prog 107 #[.agg #[.int .i64 a, .int .i64 b], .func (.func 108) #[] #[.pointer (some ⟨g8, 0, none⟩), .pointer (some ⟨g6, 0, none⟩)]] w fun e w' => e = .returned (dlV a b p q) ∧ Below w.heap.size w w' := by
  have KA := Lib.hid (fun W (hW : Below w.heap.size w W) => Dlon1_any a p q g8 g6 W (h8.below hW h8.lt) (h6.below hW h6.lt) a0 a1 p0 pq q1)
  have KB := Lib.hid (fun W (hW : Below w.heap.size w W) => Dlon1_any b p q g8 g6 W (h8.below hW h8.lt) (h6.below hW h6.lt) b0 b1 p0 pq q1)
  have KV := Lib.hid (fun W => aValid_any (min (qtA a p q) (qtA b p q)) (max (qtB a p q) (qtB b p q)) W)
  have hv := Lib.hid (fun h1 h2 => dl_av (a := a) (b := b) (p := p) (q := q) p0 h1 h2)
  clear h8 h6 a0 a1 b0 b1 p0 pq q1
  have i0 : ∀ w, (Instr.index 208 (.agg #[.int .i64 a, .int .i64 b]) (.int .i64 0)).run Tryz.prog w = .ok (.int .i64 a) w := fun _ => by kernel_rfl
  have i1 : ∀ w, (Instr.index 208 (.agg #[.int .i64 a, .int .i64 b]) (.int .i64 1)).run Tryz.prog w = .ok (.int .i64 b) w := fun _ => by kernel_rfl
  unfold dlV dlG dlA dlB
  unfold qtV at *
  generalize qtG a p q = s at *
  generalize qtG b p q = t at *
  generalize qtA a p q = A at *
  generalize qtB a p q = B at *
  generalize qtA b p q = A' at *
  generalize qtB b p q = B' at *
  cases s with
  | false =>
    simp only [Bool.false_and, Bool.false_eq_true, if_false] at *
    go_enter Tryz.func107, Tryz.ntmps107
    go_wp2_with fail
    go_loopw [17] (fun s17 wr => s17 = .int .i64 0 ∧ D2 wr (w.heap.size + 1) 0 0 ∧ Below w.heap.size w wr) (fun _ _ => 1)
    case atStart =>
      refine ⟨rfl, ?_, by repeat (first | exact Below.refl _ _ | assumption | refine bl_drew ?_ | refine bl_drewN ?_ _ | refine Below.setCell ?_ (by first | assumption | omega | (simp; done) | (simp; omega)) _ | refine Below.alloc ?_ (by first | assumption | omega | (simp; done) | (simp; omega)) _)⟩
      have := ((D2.new (w.alloc (.cells #[.int .i64 a, .int .i64 b] 24)) 0 0 24).alloc (.cells #[.int .i64 0, .int .i64 0] 24))
      simpa using this
    case round =>
      obtain ⟨rfl, hR, hbr⟩ := hrel
      go_wp2_with fail
      (with_reducible refine (KA.out _ hbr).mono ?_)
      rintro e w1 ⟨rfl, hb1⟩
      have R1 := hR.below hb1 hR.lt
      have hbl1 := hbr.trans (hb1.mono hbr.size)
      obtain ⟨rt, r0, r1, rf0, rf1⟩ := R1
      clear hb1 hR
      go_wp2
      refine bodyPost_ret (v := .tuple #[.agg #[.int .i64 0, .int .i64 0], .int .i64 5]) (by simp [results, Tryz.results107, go_sem, *]; done) rfl ⟨rfl, ?_⟩
      exact (hbl1.setCell (by simp) _).setCell (by simp) _
  | true =>
    cases t with
    | false =>
      simp only [Bool.and_false, Bool.false_eq_true, if_false, if_true] at *
      go_enter Tryz.func107, Tryz.ntmps107
      go_wp2_with fail
      go_loopw [17] (fun s17 wr => ∃ k : Nat, k ≤ 1 ∧ s17 = .int .i64 k ∧ D2 wr (w.heap.size + 1) 0 0 ∧ D2 wr (w.heap.size + 1 + 1) (oA A A' k) (oB B B' k) ∧ Below w.heap.size w wr) (fun s17 _ => 2 - (intOf s17).toNat)
      case atStart =>
        refine ⟨0, by omega, rfl, ?_, ?_, by repeat (first | exact Below.refl _ _ | assumption | refine bl_drew ?_ | refine bl_drewN ?_ _ | refine Below.setCell ?_ (by first | assumption | omega | (simp; done) | (simp; omega)) _ | refine Below.alloc ?_ (by first | assumption | omega | (simp; done) | (simp; omega)) _)⟩
        · have := ((D2.new (w.alloc (.cells #[.int .i64 a, .int .i64 b] 24)) 0 0 24).alloc (.cells #[.int .i64 0, .int .i64 0] 24))
          simpa using this
        · have := (D2.new ((w.alloc (.cells #[.int .i64 a, .int .i64 b] 24)).alloc (.cells #[.int .i64 0, .int .i64 0] 24)) 0 0 24)
          simpa [oA, oB] using this
      case round =>
        obtain ⟨k, hk, rfl, hR, hO, hbr⟩ := hrel
        have hcase : k = 0 ∨ k = 1 := by omega
        clear hk
        rcases hcase with rfl | rfl
        · go_wp2_with fail
          (with_reducible refine (KA.out _ hbr).mono ?_)
          rintro e w1 ⟨rfl, hb1⟩
          have R1 := Lib.hid (hR.below hb1 hR.lt)
          have O1 := Lib.hid (hO.below hb1 hO.lt)
          have hbl1 := hbr.trans (hb1.mono hbr.size)
          clear hb1 hR hO
          obtain ⟨rt, r0, r1, rf0, rf1⟩ := O1.out
          go_wp2
          go_roundw
          case rel =>
            refine ⟨1, by omega, by go_num, ?_, ?_, ?_⟩
            · exact (((R1.out.far (by simp) _).far (by simp) _).far (by simp) _).far (by simp) _
            · have := (((O1.out.set0 A).set1 B).set0 A).set1 B
              simpa [oA, oB] using this
            · exact (((hbl1.setCell (by simp; omega) _).setCell (by simp; omega) _).setCell (by simp; omega) _).setCell (by simp; omega) _
          case measure => simp [intOf]
        · go_wp2_with fail
          (with_reducible refine (KB.out _ hbr).mono ?_)
          rintro e w1 ⟨rfl, hb1⟩
          have R1 := hR.below hb1 hR.lt
          have hbl1 := hbr.trans (hb1.mono hbr.size)
          clear hb1 hR hO
          obtain ⟨rt, r0, r1, rf0, rf1⟩ := R1
          go_wp2
          refine bodyPost_ret (v := .tuple #[.agg #[.int .i64 0, .int .i64 0], .int .i64 5]) (by simp [results, Tryz.results107, go_sem, *]; done) rfl ⟨rfl, ?_⟩
          exact (hbl1.setCell (by simp) _).setCell (by simp) _
    | true =>
      have hvv := hv.out rfl rfl
      rw [hvv] at KV
      clear hv hvv
      simp only [Bool.and_self, if_true] at *
      go_enter Tryz.func107, Tryz.ntmps107
      go_wp2_with fail
      go_loopw [17] (fun s17 wr => ∃ k : Nat, k ≤ 2 ∧ s17 = .int .i64 k ∧ D2 wr (w.heap.size + 1) 0 0 ∧ D2 wr (w.heap.size + 1 + 1) (oA A A' k) (oB B B' k) ∧ Below w.heap.size w wr) (fun s17 _ => 3 - (intOf s17).toNat)
      case atStart =>
        refine ⟨0, by omega, rfl, ?_, ?_, by repeat (first | exact Below.refl _ _ | assumption | refine bl_drew ?_ | refine bl_drewN ?_ _ | refine Below.setCell ?_ (by first | assumption | omega | (simp; done) | (simp; omega)) _ | refine Below.alloc ?_ (by first | assumption | omega | (simp; done) | (simp; omega)) _)⟩
        · have := ((D2.new (w.alloc (.cells #[.int .i64 a, .int .i64 b] 24)) 0 0 24).alloc (.cells #[.int .i64 0, .int .i64 0] 24))
          simpa using this
        · have := (D2.new ((w.alloc (.cells #[.int .i64 a, .int .i64 b] 24)).alloc (.cells #[.int .i64 0, .int .i64 0] 24)) 0 0 24)
          simpa [oA, oB] using this
      case round =>
        obtain ⟨k, hk, rfl, hR, hO, hbr⟩ := hrel
        have hcase : k = 0 ∨ k = 1 ∨ k = 2 := by omega
        clear hk
        rcases hcase with rfl | rfl | rfl
        · go_wp2_with fail
          (with_reducible refine (KA.out _ hbr).mono ?_)
          rintro e w1 ⟨rfl, hb1⟩
          have R1 := Lib.hid (hR.below hb1 hR.lt)
          have O1 := Lib.hid (hO.below hb1 hO.lt)
          have hbl1 := hbr.trans (hb1.mono hbr.size)
          clear hb1 hR hO
          obtain ⟨rt, r0, r1, rf0, rf1⟩ := O1.out
          go_wp2
          go_roundw
          case rel =>
            refine ⟨1, by omega, by go_num, ?_, ?_, ?_⟩
            · exact (((R1.out.far (by simp) _).far (by simp) _).far (by simp) _).far (by simp) _
            · have := (((O1.out.set0 A).set1 B).set0 A).set1 B
              simpa [oA, oB] using this
            · exact (((hbl1.setCell (by simp; omega) _).setCell (by simp; omega) _).setCell (by simp; omega) _).setCell (by simp; omega) _
          case measure => simp [intOf]
        · go_wp2_with fail
          (with_reducible refine (KB.out _ hbr).mono ?_)
          rintro e w1 ⟨rfl, hb1⟩
          have R1 := Lib.hid (hR.below hb1 hR.lt)
          have O1 : Hid (D2 w1 (w.heap.size + 1 + 1) A B) := Lib.hid (hO.below hb1 hO.lt)
          have hbl1 := hbr.trans (hb1.mono hbr.size)
          clear hb1 hR hO
          obtain ⟨rt, r0, r1, rf0, rf1⟩ := O1.out
          go_wp2
          go_roundw
          case rel =>
            refine ⟨2, by omega, by go_num, ?_, ?_, ?_⟩
            · exact (R1.out.far (by simp) _).far (by simp) _
            · have := (O1.out.set0 (min A A')).set1 (max B B')
              simpa [oA, oB] using this
            · exact (hbl1.setCell (by simp; omega) _).setCell (by simp; omega) _
          case measure => simp [intOf]
        · have O1 : D2 wr (w.heap.size + 1 + 1) (min A A') (max B B') := hO
          have R1 := Lib.hid hR
          have O1' := Lib.hid O1
          clear hR hO
          obtain ⟨rt, r0, r1, rf0, rf1⟩ := O1
          go_wp2_with fail
          (with_reducible refine (KV.out _).mono ?_)
          rintro e w1 ⟨rfl, hb1⟩
          have R2 := R1.out.below hb1 R1.out.lt
          have O2 := O1'.out.below hb1 O1'.out.lt
          have hbl1 := hbr.trans (hb1.mono hbr.size)
          clear hb1 rt r0 r1 rf0 rf1 R1 O1'
          obtain ⟨rt, r0, r1, rf0, rf1⟩ := R2
          obtain ⟨ot, o0, o1, of0, of1⟩ := O2
          go_wp2
          refine bodyPost_ret (v := .tuple #[.agg #[.int .i64 (min A A'), .int .i64 (max B B')], .int .i64 0]) (by simp [results, Tryz.results107, go_sem, *]; done) rfl ⟨rfl, ?_⟩
          exact (hbl1.setCell (by simp) _).setCell (by simp) _
theorem en_le (lo hi : Int) : -1073741824 ≤ Trig.enLo lo hi ∧ Trig.enLo lo hi ≤ Trig.enHi lo hi ∧ Trig.enHi lo hi ≤ 1073741824 := by
  have h1 := Trig.hi_le lo
  have h2 := Trig.hi_le hi
  unfold Trig.enLo Trig.enHi
  split <;> split <;> omega
/-- the difference of longitude of a departure, and the error -/
def dnV (lo hi a b : Int) : Value := if Trig.enLo (lo + 5400000) (hi + 5400000) ≤ 0 then .tuple #[.agg #[.int .i64 0, .int .i64 0], .int .i64 21] else dlV a b (Trig.enLo (lo + 5400000) (hi + 5400000)) (Trig.enHi (lo + 5400000) (hi + 5400000))
set_option maxHeartbeats 4000000 in
set_option maxRecDepth 100000 in
theorem Dlon_any (lo hi a b : Int) (w : World) (l0 : -5400000 ≤ lo) (l1 : lo ≤ hi) (l2 : hi ≤ 5400000) (hs : smB a b = true) :
    Calls Tryz.prog 80 #[.agg #[.int .i64 lo, .int .i64 hi], .agg #[.int .i64 a, .int .i64 b]] w fun e w' => e = .returned (dnV lo hi a b) ∧ Below w.heap.size w w' := by
  have KL := Lib.hid (fun W => latitude_yes lo hi W l0 l1 l2)
  have KV := Lib.hid (fun W => aValid_any a b W)
  rw [sm_av hs] at KV
  have KC := Lib.hid (fun W => Cos_yes lo hi W (by rw [avB_true]; omega))
  have he := en_le (lo + 5400000) (hi + 5400000)
  rw [sm_iff] at hs
  unfold dnV
  generalize Trig.enLo (lo + 5400000) (hi + 5400000) = p at *
  generalize Trig.enHi (lo + 5400000) (hi + 5400000) = q at *
  have b0 : Below w.heap.size w (((w.alloc (.cells #[.int .i64 lo, .int .i64 hi] 24)).alloc (.cells #[.int .i64 a, .int .i64 b] 24)).alloc (.cells #[.int .i64 0, .int .i64 0] 24)) :=
    (((Below.refl _ _).alloc (Nat.le_refl _) _).alloc (by simp) _).alloc (by simp; omega) _
  have L0 := Lib.hid (((D2.new w lo hi 24).alloc (.cells #[.int .i64 a, .int .i64 b] 24)).alloc (.cells #[.int .i64 0, .int .i64 0] 24))
  have A0 : Hid (D2 (((w.alloc (.cells #[.int .i64 lo, .int .i64 hi] 24)).alloc (.cells #[.int .i64 a, .int .i64 b] 24)).alloc (.cells #[.int .i64 0, .int .i64 0] 24)) (w.heap.size + 1) a b) := Lib.hid (by
    have := (D2.new (w.alloc (.cells #[.int .i64 lo, .int .i64 hi] 24)) a b 24).alloc (.cells #[.int .i64 0, .int .i64 0] 24)
    simpa using this)
  have R0 : Hid (D2 (((w.alloc (.cells #[.int .i64 lo, .int .i64 hi] 24)).alloc (.cells #[.int .i64 a, .int .i64 b] 24)).alloc (.cells #[.int .i64 0, .int .i64 0] 24)) (w.heap.size + 2) 0 0) := Lib.hid (by
    have := D2.new ((w.alloc (.cells #[.int .i64 lo, .int .i64 hi] 24)).alloc (.cells #[.int .i64 a, .int .i64 b] 24)) 0 0 24
    simpa using this)
  by_cases hp : p ≤ 0
  · rw [if_pos hp]
    clear he l0 l1 l2 hs
    go_enter Tryz.func80, Tryz.ntmps80
    go_wp2_with fail
    (with_reducible refine (KL.out _).mono ?_)
    rintro e w1 ⟨rfl, hb1⟩
    have L1 := Lib.hid (L0.out.below hb1 L0.out.lt)
    have A1 := Lib.hid (A0.out.below hb1 A0.out.lt)
    have R1 := Lib.hid (R0.out.below hb1 R0.out.lt)
    have b1 := b0.trans (hb1.mono b0.size)
    clear hb1 b0 L0 A0 R0
    obtain ⟨at1, a0, a1, af0, af1⟩ := A1.out
    go_wp2_with fail
    (with_reducible refine (KV.out _).mono ?_)
    rintro e w2 ⟨rfl, hb2⟩
    have L2 := Lib.hid (L1.out.below hb2 L1.out.lt)
    have R2 := Lib.hid (R1.out.below hb2 R1.out.lt)
    have b2 := b1.trans (hb2.mono b1.size)
    clear hb2 b1 L1 A1 R1 at1 a0 a1 af0 af1
    obtain ⟨lt1, c0, c1, cf0, cf1⟩ := L2.out
    go_wp2_with fail
    (with_reducible refine (KC.out _).mono ?_)
    rintro e w3 ⟨rfl, hb3⟩
    have R3 := R2.out.below hb3 R2.out.lt
    have b3 := b2.trans (hb3.mono b2.size)
    clear hb3 b2 L2 R2 lt1 c0 c1 cf0 cf1
    obtain ⟨rt, r0, r1, rf0, rf1⟩ := R3
    go_wp2
    refine bodyPost_ret (v := .tuple #[.agg #[.int .i64 0, .int .i64 0], .int .i64 21]) (by simp [results, Tryz.results80, go_sem, *]; done) rfl ⟨rfl, ?_⟩
    have z3 := b3.size
    refine Below.alloc (Below.setCell (Below.setCell b3 ?_ _) ?_ _) ?_ _ <;> first | (simp only []; omega) | (simp; omega)
  · rw [if_neg hp]
    have KB := Lib.hid (fun (W : World) => both_dlon a b p q (W.heap.size + 1) W.heap.size ((W.alloc (.cells #[.int .i64 p, .int .i64 q] 171)).alloc (.cells #[.int .i64 1073741824, .int .i64 1073741824] 171)) (by
        have := D2.new (W.alloc (.cells #[.int .i64 p, .int .i64 q] 171)) 1073741824 1073741824 171
        simpa using this) ((D2.new W p q 171).alloc _) (by omega) (by omega) (by omega) (by omega) (by omega) he.2.1 (by omega))
    clear he l0 l1 l2 hs
    unfold dlV at *
    generalize dlG a b p q = s at *
    generalize dlA a b p q = x at *
    generalize dlB a b p q = y at *
    cases s
    all_goals
      simp only [Bool.false_eq_true, if_false, if_true] at *
      go_enter Tryz.func80, Tryz.ntmps80
      go_wp2_with fail
      (with_reducible refine (KL.out _).mono ?_)
      rintro e w1 ⟨rfl, hb1⟩
      have L1 := Lib.hid (L0.out.below hb1 L0.out.lt)
      have A1 := Lib.hid (A0.out.below hb1 A0.out.lt)
      have R1 := Lib.hid (R0.out.below hb1 R0.out.lt)
      have b1 := b0.trans (hb1.mono b0.size)
      clear hb1 b0 L0 A0 R0
      obtain ⟨at1, a0, a1, af0, af1⟩ := A1.out
      go_wp2_with fail
      (with_reducible refine (KV.out _).mono ?_)
      rintro e w2 ⟨rfl, hb2⟩
      have L2 := Lib.hid (L1.out.below hb2 L1.out.lt)
      have A2 := Lib.hid (A1.out.below hb2 A1.out.lt)
      have R2 := Lib.hid (R1.out.below hb2 R1.out.lt)
      have b2 := b1.trans (hb2.mono b1.size)
      clear hb2 b1 L1 A1 R1 at1 a0 a1 af0 af1
      obtain ⟨lt1, c0, c1, cf0, cf1⟩ := L2.out
      go_wp2_with fail
      (with_reducible refine (KC.out _).mono ?_)
      rintro e w3 ⟨rfl, hb3⟩
      have A3 := Lib.hid (A2.out.below hb3 A2.out.lt)
      have R3 := Lib.hid (R2.out.below hb3 R2.out.lt)
      have b3 := b2.trans (hb3.mono b2.size)
      clear hb3 b2 L2 A2 R2 lt1 c0 c1 cf0 cf1
      obtain ⟨at1, a0, a1, af0, af1⟩ := (A3.out.alloc (.cells #[.int .i64 p, .int .i64 q] 171)).alloc (.cells #[.int .i64 1073741824, .int .i64 1073741824] 171)
      go_wp2_with fail
      (with_reducible refine (KB.out w3).mono ?_)
      rintro e w4 ⟨rfl, hb4⟩
      have R4 := (((R3.out.alloc _).alloc _).below hb4 ((R3.out.alloc _).alloc _).lt)
      have b4 := ((b3.alloc b3.size (.cells #[.int .i64 p, .int .i64 q] 171)).alloc (by have := b3.size; simp; omega) (.cells #[.int .i64 1073741824, .int .i64 1073741824] 171)).trans (hb4.mono (by have := b3.size; simp; omega))
      clear hb4 b3 R3 A3 at1 a0 a1 af0 af1
      obtain ⟨rt, r0, r1, rf0, rf1⟩ := R4
      go_wp2
      first
        | refine bodyPost_ret (v := .tuple #[.agg #[.int .i64 x, .int .i64 y], .int .i64 0]) (by simp [results, Tryz.results80, go_sem, *]; done) rfl ⟨rfl, ?_⟩
        | refine bodyPost_ret (v := .tuple #[.agg #[.int .i64 0, .int .i64 0], .int .i64 5]) (by simp [results, Tryz.results80, go_sem, *]; done) rfl ⟨rfl, ?_⟩
      refine Below.setCell (Below.setCell b4 ?_ _) ?_ _ <;> (simp only []; omega)
end Go.Proofs.YthfndnmfnijpeaaGreat
