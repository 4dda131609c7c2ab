/- The walks of midlatitude.Dlon and of advance's moved. -/
import Derived.Deep.RegionLaw
import Derived.Test.YtnbbemlchchmoaaGreatHJe
import Derived.Test.YtnbbemlchchmoaaGreatHVd
import Derived.Test.YtnbbemlchchmoaaGreatHShelfT
import Derived.Test.YtnbbemlchchmoaaGreatHUk
set_option linter.unusedVariables false
set_option linter.unusedSimpArgs false
namespace Go.Proofs.YtnbbemlchchmoaaGreat
open Go.RowKit
theorem qt_le (n : Int) {p q : Int} (hp : 0 < p) : qtA n p q ≤ qtB n p q := by
  unfold qtA qtB
  generalize 1073741824 * n = m
  have h1 := Int.ediv_mul_le m (show p ≠ 0 by omega)
  have h2 := Int.ediv_mul_le (-m) (show p ≠ 0 by omega)
  have h3 : m / p ≤ -(-m / p) := by
    have h4 : (m / p + -m / p) * p ≤ 0 := by rw [Int.add_mul]; omega
    have h5 : m / p + -m / p ≤ 0 := by
      refine Int.not_lt.1 fun h => ?_
      have := Int.mul_pos h hp
      omega
    omega
  generalize m / p = x at *
  generalize -m / p = y at *
  generalize m / q = z at *
  generalize -m / q = u at *
  omega
def dlG (a b p q : Int) : Bool := qtG a p q && qtG b p q
def dlA (a b p q : Int) : Int := min (qtA a p q) (qtA b p q)
def dlB (a b p q : Int) : Int := max (qtB a p q) (qtB b p q)
def dlV (a b p q : Int) : Value := if dlG a b p q = true then .tuple #[.agg #[.int .i64 (dlA a b p q), .int .i64 (dlB a b p q)], .int .i64 0] else .tuple #[.agg #[.int .i64 0, .int .i64 0], .int .i64 5]
theorem rch_iff {n : Int} : rchB n = true ↔ (-1099511627776 ≤ n ∧ n ≤ 1099511627776) := by unfold rchB; exact decide_eq_true_iff
theorem qtG_iff {n p q : Int} : qtG n p q = true ↔ (-1099511627776 ≤ qtA n p q ∧ qtA n p q ≤ 1099511627776 ∧ -1099511627776 ≤ qtB n p q ∧ qtB n p q ≤ 1099511627776) := by
  unfold qtG
  rw [Bool.and_eq_true, rch_iff, rch_iff]
  omega
theorem dl_av {a b p q : Int} (hp : 0 < p) (ha : qtG a p q = true) (hb : qtG b p q = true) : avB (min (qtA a p q) (qtA b p q)) (max (qtB a p q) (qtB b p q)) = true := by
  rw [qtG_iff] at ha hb
  have h1 := qt_le a (q := q) hp
  rw [avB_true]
  omega
set_option maxHeartbeats 1000000 in
theorem Dlon1_any (n p q : Int) (g8 g6 : Nat) (w : World) (h8 : D2 w g8 1073741824 1073741824) (h6 : D2 w g6 p q) (n0 : -16777216 ≤ n) (n1 : n ≤ 16777216) (p0 : 0 < p) (pq : p ≤ q) (q1 : q ≤ 1073741824) :
    Calls Tryz.prog 188 #[.int .i64 n, .pointer (some ⟨g8, 0, none⟩), .pointer (some ⟨g6, 0, none⟩)] w fun e w' => e = .returned (qtV n p q) ∧ Below w.heap.size w w' := by
  have K := Lib.hid (fun W => Quotient_any n p q W n0 n1 p0 pq q1)
  obtain ⟨at1, a0, a1, af0, af1⟩ := h8
  obtain ⟨bt1, b0, b1, bf0, bf1⟩ := h6
  clear n0 n1 p0 pq q1
  unfold qtV at *
  generalize qtG n p q = s at *
  generalize qtA n p q = A at *
  generalize qtB n p q = B at *
  cases s
  all_goals
    simp only [Bool.false_eq_true, if_false, if_true] at *
    go_enter Tryz.func188, Tryz.ntmps188
    go_wp2_with fail
    (with_reducible refine (K.out _).mono ?_)
    rintro e w1 ⟨rfl, hb1⟩
    go_wp2
    go_ret3
    exact ⟨rfl, hb1⟩
def oA (x y : Int) : Nat → Int
  | 0 => 0
  | 1 => x
  | _ => min x y
def oB (x y : Int) : Nat → Int
  | 0 => 0
  | 1 => x
  | _ => max x y
set_option maxHeartbeats 4000000 in
set_option maxRecDepth 100000 in
theorem both_dlon (a b p q : Int) (g8 g6 : Nat) (w : World) (h8 : D2 w g8 1073741824 1073741824) (h6 : D2 w g6 p q) (a0 : -16777216 ≤ a) (a1 : a ≤ 16777216) (b0 : -16777216 ≤ b) (b1 : b ≤ 16777216) (p0 : 0 < p) (pq : p ≤ q) (q1 : q ≤ 1073741824) :
    Calls Tryz.prog 187 #[.agg #[.int .i64 a, .int .i64 b], .func (.func 188) #[] #[.pointer (some ⟨g8, 0, none⟩), .pointer (some ⟨g6, 0, none⟩)]] w fun e w' => e = .returned (dlV a b p q) ∧ Below w.heap.size w w' := by
  have KA := Lib.hid (fun W (hW : Below w.heap.size w W) => Dlon1_any a p q g8 g6 W (h8.below hW h8.lt) (h6.below hW h6.lt) a0 a1 p0 pq q1)
  have KB := Lib.hid (fun W (hW : Below w.heap.size w W) => Dlon1_any b p q g8 g6 W (h8.below hW h8.lt) (h6.below hW h6.lt) b0 b1 p0 pq q1)
  have KV := Lib.hid (fun W => aValid_any (min (qtA a p q) (qtA b p q)) (max (qtB a p q) (qtB b p q)) W)
  have hv := Lib.hid (fun h1 h2 => dl_av (a := a) (b := b) (p := p) (q := q) p0 h1 h2)
  clear h8 h6 a0 a1 b0 b1 p0 pq q1
  have i0 : ∀ w, (Instr.index 161 (.agg #[.int .i64 a, .int .i64 b]) (.int .i64 0)).run Tryz.prog w = .ok (.int .i64 a) w := fun _ => by kernel_rfl
  have i1 : ∀ w, (Instr.index 161 (.agg #[.int .i64 a, .int .i64 b]) (.int .i64 1)).run Tryz.prog w = .ok (.int .i64 b) w := fun _ => by kernel_rfl
  unfold dlV dlG dlA dlB
  unfold qtV at *
  generalize qtG a p q = s at *
  generalize qtG b p q = t at *
  generalize qtA a p q = A at *
  generalize qtB a p q = B at *
  generalize qtA b p q = A' at *
  generalize qtB b p q = B' at *
  cases s with
  | false =>
    simp only [Bool.false_and, Bool.false_eq_true, if_false] at *
    go_enter Tryz.func187, Tryz.ntmps187
    go_wp2_with fail
    go_loopw [17] (fun s17 wr => s17 = .int .i64 0 ∧ D2 wr (w.heap.size + 1) 0 0 ∧ Below w.heap.size w wr) (fun _ _ => 1)
    case atStart =>
      refine ⟨rfl, ?_, by repeat (first | exact Below.refl _ _ | assumption | refine bl_drew ?_ | refine bl_drewN ?_ _ | refine Below.setCell ?_ (by first | assumption | omega | (simp; done) | (simp; omega)) _ | refine Below.alloc ?_ (by first | assumption | omega | (simp; done) | (simp; omega)) _)⟩
      have := ((D2.new (w.alloc (.cells #[.int .i64 a, .int .i64 b] 32)) 0 0 32).alloc (.cells #[.int .i64 0, .int .i64 0] 32))
      simpa using this
    case round =>
      obtain ⟨rfl, hR, hbr⟩ := hrel
      go_wp2_with fail
      (with_reducible refine (KA.out _ hbr).mono ?_)
      rintro e w1 ⟨rfl, hb1⟩
      have R1 := hR.below hb1 hR.lt
      have hbl1 := hbr.trans (hb1.mono hbr.size)
      obtain ⟨rt, r0, r1, rf0, rf1⟩ := R1
      clear hb1 hR
      go_wp2
      refine bodyPost_ret (v := .tuple #[.agg #[.int .i64 0, .int .i64 0], .int .i64 5]) (by simp [results, Tryz.results187, go_sem, *]; done) rfl ⟨rfl, ?_⟩
      exact (hbl1.setCell (by simp) _).setCell (by simp) _
  | true =>
    cases t with
    | false =>
      simp only [Bool.and_false, Bool.false_eq_true, if_false, if_true] at *
      go_enter Tryz.func187, Tryz.ntmps187
      go_wp2_with fail
      go_loopw [17] (fun s17 wr => ∃ k : Nat, k ≤ 1 ∧ s17 = .int .i64 k ∧ D2 wr (w.heap.size + 1) 0 0 ∧ D2 wr (w.heap.size + 1 + 1) (oA A A' k) (oB B B' k) ∧ Below w.heap.size w wr) (fun s17 _ => 2 - (intOf s17).toNat)
      case atStart =>
        refine ⟨0, by omega, rfl, ?_, ?_, by repeat (first | exact Below.refl _ _ | assumption | refine bl_drew ?_ | refine bl_drewN ?_ _ | refine Below.setCell ?_ (by first | assumption | omega | (simp; done) | (simp; omega)) _ | refine Below.alloc ?_ (by first | assumption | omega | (simp; done) | (simp; omega)) _)⟩
        · have := ((D2.new (w.alloc (.cells #[.int .i64 a, .int .i64 b] 32)) 0 0 32).alloc (.cells #[.int .i64 0, .int .i64 0] 32))
          simpa using this
        · have := (D2.new ((w.alloc (.cells #[.int .i64 a, .int .i64 b] 32)).alloc (.cells #[.int .i64 0, .int .i64 0] 32)) 0 0 32)
          simpa [oA, oB] using this
      case round =>
        obtain ⟨k, hk, rfl, hR, hO, hbr⟩ := hrel
        have hcase : k = 0 ∨ k = 1 := by omega
        clear hk
        rcases hcase with rfl | rfl
        · go_wp2_with fail
          (with_reducible refine (KA.out _ hbr).mono ?_)
          rintro e w1 ⟨rfl, hb1⟩
          have R1 := Lib.hid (hR.below hb1 hR.lt)
          have O1 := Lib.hid (hO.below hb1 hO.lt)
          have hbl1 := hbr.trans (hb1.mono hbr.size)
          clear hb1 hR hO
          obtain ⟨rt, r0, r1, rf0, rf1⟩ := O1.out
          go_wp2
          go_roundw
          case rel =>
            refine ⟨1, by omega, by go_num, ?_, ?_, ?_⟩
            · exact (((R1.out.far (by simp) _).far (by simp) _).far (by simp) _).far (by simp) _
            · have := (((O1.out.set0 A).set1 B).set0 A).set1 B
              simpa [oA, oB] using this
            · exact (((hbl1.setCell (by simp; omega) _).setCell (by simp; omega) _).setCell (by simp; omega) _).setCell (by simp; omega) _
          case measure => simp [intOf]
        · go_wp2_with fail
          (with_reducible refine (KB.out _ hbr).mono ?_)
          rintro e w1 ⟨rfl, hb1⟩
          have R1 := hR.below hb1 hR.lt
          have hbl1 := hbr.trans (hb1.mono hbr.size)
          clear hb1 hR hO
          obtain ⟨rt, r0, r1, rf0, rf1⟩ := R1
          go_wp2
          refine bodyPost_ret (v := .tuple #[.agg #[.int .i64 0, .int .i64 0], .int .i64 5]) (by simp [results, Tryz.results187, go_sem, *]; done) rfl ⟨rfl, ?_⟩
          exact (hbl1.setCell (by simp) _).setCell (by simp) _
    | true =>
      have hvv := hv.out rfl rfl
      rw [hvv] at KV
      clear hv hvv
      simp only [Bool.and_self, if_true] at *
      go_enter Tryz.func187, Tryz.ntmps187
      go_wp2_with fail
      go_loopw [17] (fun s17 wr => ∃ k : Nat, k ≤ 2 ∧ s17 = .int .i64 k ∧ D2 wr (w.heap.size + 1) 0 0 ∧ D2 wr (w.heap.size + 1 + 1) (oA A A' k) (oB B B' k) ∧ Below w.heap.size w wr) (fun s17 _ => 3 - (intOf s17).toNat)
      case atStart =>
        refine ⟨0, by omega, rfl, ?_, ?_, by repeat (first | exact Below.refl _ _ | assumption | refine bl_drew ?_ | refine bl_drewN ?_ _ | refine Below.setCell ?_ (by first | assumption | omega | (simp; done) | (simp; omega)) _ | refine Below.alloc ?_ (by first | assumption | omega | (simp; done) | (simp; omega)) _)⟩
        · have := ((D2.new (w.alloc (.cells #[.int .i64 a, .int .i64 b] 32)) 0 0 32).alloc (.cells #[.int .i64 0, .int .i64 0] 32))
          simpa using this
        · have := (D2.new ((w.alloc (.cells #[.int .i64 a, .int .i64 b] 32)).alloc (.cells #[.int .i64 0, .int .i64 0] 32)) 0 0 32)
          simpa [oA, oB] using this
      case round =>
        obtain ⟨k, hk, rfl, hR, hO, hbr⟩ := hrel
        have hcase : k = 0 ∨ k = 1 ∨ k = 2 := by omega
        clear hk
        rcases hcase with rfl | rfl | rfl
        · go_wp2_with fail
          (with_reducible refine (KA.out _ hbr).mono ?_)
          rintro e w1 ⟨rfl, hb1⟩
          have R1 := Lib.hid (hR.below hb1 hR.lt)
          have O1 := Lib.hid (hO.below hb1 hO.lt)
          have hbl1 := hbr.trans (hb1.mono hbr.size)
          clear hb1 hR hO
          obtain ⟨rt, r0, r1, rf0, rf1⟩ := O1.out
          go_wp2
          go_roundw
          case rel =>
            refine ⟨1, by omega, by go_num, ?_, ?_, ?_⟩
            · exact (((R1.out.far (by simp) _).far (by simp) _).far (by simp) _).far (by simp) _
            · have := (((O1.out.set0 A).set1 B).set0 A).set1 B
              simpa [oA, oB] using this
            · exact (((hbl1.setCell (by simp; omega) _).setCell (by simp; omega) _).setCell (by simp; omega) _).setCell (by simp; omega) _
          case measure => simp [intOf]
        · go_wp2_with fail
          (with_reducible refine (KB.out _ hbr).mono ?_)
          rintro e w1 ⟨rfl, hb1⟩
          have R1 := Lib.hid (hR.below hb1 hR.lt)
          have O1 : Hid (D2 w1 (w.heap.size + 1 + 1) A B) := Lib.hid (hO.below hb1 hO.lt)
          have hbl1 := hbr.trans (hb1.mono hbr.size)
          clear hb1 hR hO
          obtain ⟨rt, r0, r1, rf0, rf1⟩ := O1.out
          go_wp2
          go_roundw
          case rel =>
            refine ⟨2, by omega, by go_num, ?_, ?_, ?_⟩
            · exact (R1.out.far (by simp) _).far (by simp) _
            · have := (O1.out.set0 (min A A')).set1 (max B B')
              simpa [oA, oB] using this
            · exact (hbl1.setCell (by simp; omega) _).setCell (by simp; omega) _
          case measure => simp [intOf]
        · have O1 : D2 wr (w.heap.size + 1 + 1) (min A A') (max B B') := hO
          have R1 := Lib.hid hR
          have O1' := Lib.hid O1
          clear hR hO
          obtain ⟨rt, r0, r1, rf0, rf1⟩ := O1
          go_wp2_with fail
          (with_reducible refine (KV.out _).mono ?_)
          rintro e w1 ⟨rfl, hb1⟩
          have R2 := R1.out.below hb1 R1.out.lt
          have O2 := O1'.out.below hb1 O1'.out.lt
          have hbl1 := hbr.trans (hb1.mono hbr.size)
          clear hb1 rt r0 r1 rf0 rf1 R1 O1'
          obtain ⟨rt, r0, r1, rf0, rf1⟩ := R2
          obtain ⟨ot, o0, o1, of0, of1⟩ := O2
          go_wp2
          refine bodyPost_ret (v := .tuple #[.agg #[.int .i64 (min A A'), .int .i64 (max B B')], .int .i64 0]) (by simp [results, Tryz.results187, go_sem, *]; done) rfl ⟨rfl, ?_⟩
          exact (hbl1.setCell (by simp) _).setCell (by simp) _
end Go.Proofs.YtnbbemlchchmoaaGreat
namespace Go.Proofs.YtnbbemlchchmoaaGreat
open Go.RowKit
theorem min_e (x y : Int) : (if y < x then y else x) = min x y := by rw [Int.min_def]; split <;> split <;> omega
theorem max_e (x y : Int) : (if y > x then y else x) = max x y := by rw [Int.max_def]; split <;> split <;> omega
@[go_sem high] theorem run_max4 {P : Program} (w : World) (ts : Array TypeId) (t : TypeId) (x y z u : Int) :
    (Builtin.max_ ts t #[.int .i64 x, .int .i64 y, .int .i64 z, .int .i64 u]).run P w = .ok (.int .i64 (max x (max y (max z u)))) w := by
  simp [Builtin.max_, Builtin.max2, max_e, Int.max_assoc]
end Go.Proofs.YtnbbemlchchmoaaGreat
namespace Go.Proofs.YtnbbemlchchmoaaGreat
open Go.RowKit
set_option maxHeartbeats 1000000 in
theorem rfit_any (lo hi : Int) (w : World) (hl : lo ≤ hi) : Calls Tryz.prog 278 #[.int .i64 lo, .int .i64 hi] w fun e w' => e = .returned (fitV lo hi) ∧ Below w.heap.size w w' := by
  have hs : fvB lo hi = (!(decide (lo < -2147483648)) && !(decide (2147483648 < hi))) := by
    unfold fvB
    rw [Bool.eq_iff_iff]
    simp only [decide_eq_true_eq, Bool.and_eq_true, Bool.not_eq_true', decide_eq_false_iff_not]
    omega
  unfold fitV
  rw [hs]
  clear hs hl
  cases hx : decide (lo < -2147483648) <;> cases hy : decide (2147483648 < hi)
  all_goals
    simp only [Bool.not_true, Bool.not_false, Bool.and_self, Bool.and_true, Bool.true_and, Bool.and_false, Bool.false_and, Bool.false_eq_true, if_false, if_true]
    go_enter Tryz.func278, Tryz.ntmps278
    go_wp2
    first
      | refine bodyPost_ret (v := .tuple #[.agg #[.int .i64 lo, .int .i64 hi], .int .i64 0]) (by simp [results, Tryz.results278, go_sem, *]; done) rfl ⟨rfl, ?_⟩
      | refine bodyPost_ret (v := .tuple #[.agg #[.int .i64 0, .int .i64 0], .int .i64 5]) (by simp [results, Tryz.results278, go_sem, *]; done) rfl ⟨rfl, ?_⟩
    repeat (first | exact Below.refl _ _ | assumption | refine bl_drew ?_ | refine bl_drewN ?_ _ | refine Below.setCell ?_ (by first | assumption | omega | (simp; done) | (simp; omega)) _ | refine Below.alloc ?_ (by first | assumption | omega | (simp; done) | (simp; omega)) _)
set_option maxHeartbeats 2000000 in
theorem rAdd_any (a b c d : Int) (w : World) (h : fvB a b = true) (g : fvB c d = true) : Calls Tryz.prog 264 #[.agg #[.int .i64 a, .int .i64 b], .agg #[.int .i64 c, .int .i64 d]] w fun e w' => e = .returned (fitV (a + c) (b + d)) ∧ Below w.heap.size w w' := by
  rw [fv_iff] at h g
  have KF := Lib.hid (fun W => rfit_any (a + c) (b + d) W (by omega))
  have s1 : wrap64 (a + c) = a + c := IntWalk.wrap64_in _ (by omega)
  have s2 : wrap64 (b + d) = b + d := IntWalk.wrap64_in _ (by omega)
  clear h g
  unfold fitV at *
  generalize fvB (a + c) (b + d) = s at *
  obtain ⟨p, hp⟩ : ∃ p, a + c = p := ⟨_, rfl⟩
  obtain ⟨q, hq⟩ : ∃ q, b + d = q := ⟨_, rfl⟩
  rw [hp] at s1 KF ⊢
  rw [hq] at s2 KF ⊢
  cases s
  all_goals
    simp only [Bool.false_eq_true, if_false, if_true] at *
    go_enter Tryz.func264, Tryz.ntmps264
    go_wp2_with fail
    (with_reducible refine (KF.out _).mono ?_)
    rintro e w2 ⟨rfl, hb2⟩
    obtain ⟨hbl2, A1, B1, C1⟩ := three_D2 hb2
    obtain ⟨rt, r0, r1, rf0, rf1⟩ := C1
    clear hb2 A1 B1
    go_wp2
    first
      | refine bodyPost_ret (v := .tuple #[.agg #[.int .i64 p, .int .i64 q], .int .i64 0]) (by simp [results, Tryz.results264, go_sem, *]; done) rfl ⟨rfl, ?_⟩
      | refine bodyPost_ret (v := .tuple #[.agg #[.int .i64 0, .int .i64 0], .int .i64 5]) (by simp [results, Tryz.results264, go_sem, *]; done) rfl ⟨rfl, ?_⟩
    exact (hbl2.setCell (by simp; omega) _).setCell (by simp; omega) _
set_option maxHeartbeats 1000000 in
theorem rLeast_any (a b : Int) (w : World) : Calls Tryz.prog 230 #[.int .i64 a, .int .i64 b] w fun e w' => e = .returned (.int .i64 (min a b)) ∧ w' = w := by
  rw [← min_e]
  go_enter Tryz.func230, Tryz.ntmps230
  go_wp2
  all_goals
    go_ret
    refine ⟨ret_int (by simp_all), rfl⟩
set_option maxHeartbeats 1000000 in
theorem rMost_any (a b : Int) (w : World) : Calls Tryz.prog 231 #[.int .i64 a, .int .i64 b] w fun e w' => e = .returned (.int .i64 (max a b)) ∧ w' = w := by
  rw [← max_e]
  go_enter Tryz.func231, Tryz.ntmps231
  go_wp2
  all_goals
    go_ret
    refine ⟨ret_int (by simp_all), rfl⟩
end Go.Proofs.YtnbbemlchchmoaaGreat
namespace Go.Proofs.YtnbbemlchchmoaaGreat
open Go.RowKit
/-- four cells that are known -/
structure D4 (W : World) (g : Nat) (a b c d : Int) : Prop where
  lt : g < W.heap.size
  c0 : W.cell? ⟨g, 0, none⟩ = some (.int .i64 a)
  c1 : W.cell? ⟨g, 1, none⟩ = some (.int .i64 b)
  c2 : W.cell? ⟨g, 2, none⟩ = some (.int .i64 c)
  c3 : W.cell? ⟨g, 3, none⟩ = some (.int .i64 d)
  f0 : W.frozen? ⟨g, 0, none⟩ = false
  f1 : W.frozen? ⟨g, 1, none⟩ = false
  f2 : W.frozen? ⟨g, 2, none⟩ = false
  f3 : W.frozen? ⟨g, 3, none⟩ = false
section
variable {W W' : World} {g : Nat} {a b c d : Int}
theorem D4.below {B : Nat} (h : D4 W g a b c d) (hb : Below B W W') (hB : g < B) : D4 W' g a b c d :=
  ⟨Nat.lt_of_lt_of_le h.lt hb.size, (hb.cell (p := ⟨g, 0, none⟩) hB).trans h.c0, (hb.cell (p := ⟨g, 1, none⟩) hB).trans h.c1, (hb.cell (p := ⟨g, 2, none⟩) hB).trans h.c2, (hb.cell (p := ⟨g, 3, none⟩) hB).trans h.c3,
   (hb.frozen (p := ⟨g, 0, none⟩) hB).trans h.f0, (hb.frozen (p := ⟨g, 1, none⟩) hB).trans h.f1, (hb.frozen (p := ⟨g, 2, none⟩) hB).trans h.f2, (hb.frozen (p := ⟨g, 3, none⟩) hB).trans h.f3⟩
theorem D4.alloc (h : D4 W g a b c d) (o : Obj) : D4 (W.alloc o) g a b c d := h.below (bl_alloc W o) h.lt
theorem D4.new (W : World) (a b c d : Int) (t : TypeId) : D4 (W.alloc (.cells #[.int .i64 a, .int .i64 b, .int .i64 c, .int .i64 d] t)) W.heap.size a b c d := ⟨by simp, by simp, by simp, by simp, by simp, by simp, by simp, by simp, by simp⟩
end
end Go.Proofs.YtnbbemlchchmoaaGreat
namespace Go.Proofs.YtnbbemlchchmoaaGreat
open Go.RowKit
theorem D2.drew {W : World} {g : Nat} {a b : Int} (h : D2 W g a b) : D2 W.drew g a b := ⟨h.lt, h.c0, h.c1, h.f0, h.f1⟩
theorem D4.far {W : World} {g : Nat} {a b c d : Int} (h : D4 W g a b c d) {p : Addr} (hp : g ≠ p.block) (u : Value) : D4 (W.setCell p u) g a b c d := by
  have hne : ∀ i, p ≠ (⟨g, i, none⟩ : Addr) := fun i e => hp (by rw [e])
  refine ⟨by simpa using h.lt, ?_, ?_, ?_, ?_, by simpa using h.f0, by simpa using h.f1, by simpa using h.f2, by simpa using h.f3⟩
  · rw [World.cell?_setCell_other _ _ _ _ (hne 0)]; exact h.c0
  · rw [World.cell?_setCell_other _ _ _ _ (hne 1)]; exact h.c1
  · rw [World.cell?_setCell_other _ _ _ _ (hne 2)]; exact h.c2
  · rw [World.cell?_setCell_other _ _ _ _ (hne 3)]; exact h.c3
end Go.Proofs.YtnbbemlchchmoaaGreat
namespace Go.Proofs.YtnbbemlchchmoaaGreat
open Go.RowKit
theorem en_le (lo hi : Int) : -1073741824 ≤ Trig.enLo lo hi ∧ Trig.enLo lo hi ≤ Trig.enHi lo hi ∧ Trig.enHi lo hi ≤ 1073741824 := by
  have h1 := Trig.hi_le lo
  have h2 := Trig.hi_le hi
  unfold Trig.enLo Trig.enHi
  split <;> split <;> omega
/-- the difference of longitude of a departure, and the error -/
def dnV (lo hi a b : Int) : Value := if Trig.enLo (lo + 5400000) (hi + 5400000) ≤ 0 then .tuple #[.agg #[.int .i64 0, .int .i64 0], .int .i64 21] else dlV a b (Trig.enLo (lo + 5400000) (hi + 5400000)) (Trig.enHi (lo + 5400000) (hi + 5400000))
set_option maxHeartbeats 4000000 in
set_option maxRecDepth 100000 in
theorem Dlon_any (lo hi a b : Int) (w : World) (l0 : -5400000 ≤ lo) (l1 : lo ≤ hi) (l2 : hi ≤ 5400000) (hs : smB a b = true) :
    Calls Tryz.prog 142 #[.agg #[.int .i64 lo, .int .i64 hi], .agg #[.int .i64 a, .int .i64 b]] w fun e w' => e = .returned (dnV lo hi a b) ∧ Below w.heap.size w w' := by
  have KL := Lib.hid (fun W => latitude_yes lo hi W l0 l1 l2)
  have KV := Lib.hid (fun W => aValid_any a b W)
  rw [sm_av hs] at KV
  have KC := Lib.hid (fun W => Cos_yes lo hi W (by rw [avB_true]; omega))
  have he := en_le (lo + 5400000) (hi + 5400000)
  rw [sm_iff] at hs
  unfold dnV
  generalize Trig.enLo (lo + 5400000) (hi + 5400000) = p at *
  generalize Trig.enHi (lo + 5400000) (hi + 5400000) = q at *
  have b0 : Below w.heap.size w (((w.alloc (.cells #[.int .i64 lo, .int .i64 hi] 32)).alloc (.cells #[.int .i64 a, .int .i64 b] 32)).alloc (.cells #[.int .i64 0, .int .i64 0] 32)) :=
    (((Below.refl _ _).alloc (Nat.le_refl _) _).alloc (by simp) _).alloc (by simp; omega) _
  have L0 := Lib.hid (((D2.new w lo hi 32).alloc (.cells #[.int .i64 a, .int .i64 b] 32)).alloc (.cells #[.int .i64 0, .int .i64 0] 32))
  have A0 : Hid (D2 (((w.alloc (.cells #[.int .i64 lo, .int .i64 hi] 32)).alloc (.cells #[.int .i64 a, .int .i64 b] 32)).alloc (.cells #[.int .i64 0, .int .i64 0] 32)) (w.heap.size + 1) a b) := Lib.hid (by
    have := (D2.new (w.alloc (.cells #[.int .i64 lo, .int .i64 hi] 32)) a b 32).alloc (.cells #[.int .i64 0, .int .i64 0] 32)
    simpa using this)
  have R0 : Hid (D2 (((w.alloc (.cells #[.int .i64 lo, .int .i64 hi] 32)).alloc (.cells #[.int .i64 a, .int .i64 b] 32)).alloc (.cells #[.int .i64 0, .int .i64 0] 32)) (w.heap.size + 2) 0 0) := Lib.hid (by
    have := D2.new ((w.alloc (.cells #[.int .i64 lo, .int .i64 hi] 32)).alloc (.cells #[.int .i64 a, .int .i64 b] 32)) 0 0 32
    simpa using this)
  by_cases hp : p ≤ 0
  · rw [if_pos hp]
    clear he l0 l1 l2 hs
    go_enter Tryz.func142, Tryz.ntmps142
    go_wp2_with fail
    (with_reducible refine (KL.out _).mono ?_)
    rintro e w1 ⟨rfl, hb1⟩
    have L1 := Lib.hid (L0.out.below hb1 L0.out.lt)
    have A1 := Lib.hid (A0.out.below hb1 A0.out.lt)
    have R1 := Lib.hid (R0.out.below hb1 R0.out.lt)
    have b1 := b0.trans (hb1.mono b0.size)
    clear hb1 b0 L0 A0 R0
    obtain ⟨at1, a0, a1, af0, af1⟩ := A1.out
    go_wp2_with fail
    (with_reducible refine (KV.out _).mono ?_)
    rintro e w2 ⟨rfl, hb2⟩
    have L2 := Lib.hid (L1.out.below hb2 L1.out.lt)
    have R2 := Lib.hid (R1.out.below hb2 R1.out.lt)
    have b2 := b1.trans (hb2.mono b1.size)
    clear hb2 b1 L1 A1 R1 at1 a0 a1 af0 af1
    obtain ⟨lt1, c0, c1, cf0, cf1⟩ := L2.out
    go_wp2_with fail
    (with_reducible refine (KC.out _).mono ?_)
    rintro e w3 ⟨rfl, hb3⟩
    have R3 := R2.out.below hb3 R2.out.lt
    have b3 := b2.trans (hb3.mono b2.size)
    clear hb3 b2 L2 R2 lt1 c0 c1 cf0 cf1
    obtain ⟨rt, r0, r1, rf0, rf1⟩ := R3
    go_wp2
    refine bodyPost_ret (v := .tuple #[.agg #[.int .i64 0, .int .i64 0], .int .i64 21]) (by simp [results, Tryz.results142, go_sem, *]; done) rfl ⟨rfl, ?_⟩
    have z3 := b3.size
    refine Below.alloc (Below.setCell (Below.setCell b3 ?_ _) ?_ _) ?_ _ <;> first | (simp only []; omega) | (simp; omega)
  · rw [if_neg hp]
    have KB := Lib.hid (fun (W : World) => both_dlon a b p q (W.heap.size + 1) W.heap.size ((W.alloc (.cells #[.int .i64 p, .int .i64 q] 98)).alloc (.cells #[.int .i64 1073741824, .int .i64 1073741824] 98)) (by
        have := D2.new (W.alloc (.cells #[.int .i64 p, .int .i64 q] 98)) 1073741824 1073741824 98
        simpa using this) ((D2.new W p q 98).alloc _) (by omega) (by omega) (by omega) (by omega) (by omega) he.2.1 (by omega))
    clear he l0 l1 l2 hs
    unfold dlV at *
    generalize dlG a b p q = s at *
    generalize dlA a b p q = x at *
    generalize dlB a b p q = y at *
    cases s
    all_goals
      simp only [Bool.false_eq_true, if_false, if_true] at *
      go_enter Tryz.func142, Tryz.ntmps142
      go_wp2_with fail
      (with_reducible refine (KL.out _).mono ?_)
      rintro e w1 ⟨rfl, hb1⟩
      have L1 := Lib.hid (L0.out.below hb1 L0.out.lt)
      have A1 := Lib.hid (A0.out.below hb1 A0.out.lt)
      have R1 := Lib.hid (R0.out.below hb1 R0.out.lt)
      have b1 := b0.trans (hb1.mono b0.size)
      clear hb1 b0 L0 A0 R0
      obtain ⟨at1, a0, a1, af0, af1⟩ := A1.out
      go_wp2_with fail
      (with_reducible refine (KV.out _).mono ?_)
      rintro e w2 ⟨rfl, hb2⟩
      have L2 := Lib.hid (L1.out.below hb2 L1.out.lt)
      have A2 := Lib.hid (A1.out.below hb2 A1.out.lt)
      have R2 := Lib.hid (R1.out.below hb2 R1.out.lt)
      have b2 := b1.trans (hb2.mono b1.size)
      clear hb2 b1 L1 A1 R1 at1 a0 a1 af0 af1
      obtain ⟨lt1, c0, c1, cf0, cf1⟩ := L2.out
      go_wp2_with fail
      (with_reducible refine (KC.out _).mono ?_)
      rintro e w3 ⟨rfl, hb3⟩
      have A3 := Lib.hid (A2.out.below hb3 A2.out.lt)
      have R3 := Lib.hid (R2.out.below hb3 R2.out.lt)
      have b3 := b2.trans (hb3.mono b2.size)
      clear hb3 b2 L2 A2 R2 lt1 c0 c1 cf0 cf1
      obtain ⟨at1, a0, a1, af0, af1⟩ := (A3.out.alloc (.cells #[.int .i64 p, .int .i64 q] 98)).alloc (.cells #[.int .i64 1073741824, .int .i64 1073741824] 98)
      go_wp2_with fail
      (with_reducible refine (KB.out w3).mono ?_)
      rintro e w4 ⟨rfl, hb4⟩
      have R4 := (((R3.out.alloc _).alloc _).below hb4 ((R3.out.alloc _).alloc _).lt)
      have b4 := ((b3.alloc b3.size (.cells #[.int .i64 p, .int .i64 q] 98)).alloc (by have := b3.size; simp; omega) (.cells #[.int .i64 1073741824, .int .i64 1073741824] 98)).trans (hb4.mono (by have := b3.size; simp; omega))
      clear hb4 b3 R3 A3 at1 a0 a1 af0 af1
      obtain ⟨rt, r0, r1, rf0, rf1⟩ := R4
      go_wp2
      first
        | refine bodyPost_ret (v := .tuple #[.agg #[.int .i64 x, .int .i64 y], .int .i64 0]) (by simp [results, Tryz.results142, go_sem, *]; done) rfl ⟨rfl, ?_⟩
        | refine bodyPost_ret (v := .tuple #[.agg #[.int .i64 0, .int .i64 0], .int .i64 5]) (by simp [results, Tryz.results142, go_sem, *]; done) rfl ⟨rfl, ?_⟩
      refine Below.setCell (Below.setCell b4 ?_ _) ?_ _ <;> (simp only []; omega)
/-- the place to which a box is moved, and the error -/
def mvL (b0 b1 a b : Int) : Bool := decide (-5400000 ≤ b0 + a ∧ b1 + b ≤ 5400000)
def mvP (b0 b1 b2 b3 a b x y p q : Int) : Value :=
  if p ≤ 0 then .tuple #[.agg #[.int .i64 0, .int .i64 0, .int .i64 0, .int .i64 0], .int .i64 21]
  else if dlG x y p q = true then .tuple #[.agg #[.int .i64 (b0 + a), .int .i64 (b1 + b), .int .i64 (lonA (b2 + dlA x y p q) (b3 + dlB x y p q)), .int .i64 (lonB (b2 + dlA x y p q) (b3 + dlB x y p q))], .int .i64 0]
  else .tuple #[.agg #[.int .i64 0, .int .i64 0, .int .i64 0, .int .i64 0], .int .i64 5]
def mvV (b0 b1 b2 b3 a b x y : Int) : Value :=
  if mvL b0 b1 a b = true then mvP b0 b1 b2 b3 a b x y (Trig.enLo (min b0 (b0 + a) + 5400000) (max b1 (b1 + b) + 5400000)) (Trig.enHi (min b0 (b0 + a) + 5400000) (max b1 (b1 + b) + 5400000))
  else .tuple #[.agg #[.int .i64 0, .int .i64 0, .int .i64 0, .int .i64 0], .int .i64 21]
theorem dl_bd {a b p q : Int} (h : dlG a b p q = true) : -1099511627776 ≤ dlA a b p q ∧ dlA a b p q ≤ 1099511627776 ∧ -1099511627776 ≤ dlB a b p q ∧ dlB a b p q ≤ 1099511627776 := by
  unfold dlG at h
  rw [Bool.and_eq_true, qtG_iff, qtG_iff] at h
  unfold dlA dlB
  omega
end Go.Proofs.YtnbbemlchchmoaaGreat
