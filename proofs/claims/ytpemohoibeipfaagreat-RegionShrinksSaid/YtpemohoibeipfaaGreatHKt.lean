/- Lists of circles: the reference's ValidLat, ValidLon, Valid of layers 8 and 35 at any numbers, and of layer 39 at any circles; slices.ContainsFunc at circles. -/
import Derived.Test.YtpemohoibeipfaaGreatHKr
import Derived.Test.YtpemohoibeipfaaGreatHZg
import Derived.Test.YtpemohoibeipfaaGreatHNd
import Derived.Test.YtpemohoibeipfaaGreatHHs
set_option linter.unusedVariables false
set_option linter.unusedSimpArgs false
namespace Go.Proofs.YtpemohoibeipfaaGreat
open Go.RowKit
set_option maxHeartbeats 2000000 in
set_option maxRecDepth 100000 in
theorem rValidLon_vl (lo hi : Int) (w : World) (h : VL (lo, hi)) : Calls Tryz.prog 52 #[.agg #[.int .i64 lo, .int .i64 hi]] w fun e w' => e = .returned (.bool true) ∧ Below w.heap.size w w' := by
  have hq := eqlArc
  have KA := Lib.hid rAll_any
  have hb0 := Lib.hid (bl_alloc w (.cells #[.int .i64 lo, .int .i64 hi] 32))
  have D0 := Lib.hid (D2.new w lo hi 32)
  have h' : (lo = -10800000 ∧ hi = 10800000) ∨ (-10800000 ≤ lo ∧ lo < 10800000 ∧ lo ≤ hi ∧ hi - lo < 21600000) := h
  clear h
  have hN : aeq (-10800000) 10800000 (-10800000) 10800000 = true := by decide
  rcases h' with ⟨rfl, rfl⟩ | h2
  · go_enter Tryz.func52, Tryz.ntmps52
    go_upto_region 1 with (fail)
    generalize w.alloc (.cells #[.int .i64 (-10800000), .int .i64 10800000] 32) = w1 at hb0 D0 ⊢
    have c0 : ∀ s : BV w1, s.w.cell? ⟨w.heap.size, 0, none⟩ = some (.int .i64 (-10800000)) := fun s => (s.hb.cell (p := ⟨w.heap.size, 0, none⟩) D0.out.lt).trans D0.out.c0
    have c1 : ∀ s : BV w1, s.w.cell? ⟨w.heap.size, 1, none⟩ = some (.int .i64 10800000) := fun s => (s.hb.cell (p := ⟨w.heap.size, 1, none⟩) D0.out.lt).trans D0.out.c1
    refine wp_region_bv w1 (by kernel_rfl) (by kernel_rfl) (Below.refl _ _) ?_
    (repeat (go_big_quiet_step (first | (go_at_call 89; with_reducible exact quiet_bv (KA.out _)) | fail)))
    refine wpQuiet_nil ?_
    intro w9 hb9
    clear c0 c1
    go_wp2
    go_ret
    exact ⟨ret_bool (by simp), hb0.out.trans (hb9.mono hb0.out.size)⟩
  · have hN2 : aeq lo hi (-10800000) 10800000 = false := by simp [aeq]; omega
    have s1 : IntKind.i64.wrap (lo + 21600000) = lo + 21600000 := IntWalk.i64_in _ (by omega)
    have q0 : decide (-10800000 ≤ lo) = true := decide_eq_true (by clear s1; omega)
    have q1 : decide (lo < 10800000) = true := decide_eq_true (by clear s1; omega)
    have q2 : decide (lo ≤ hi) = true := decide_eq_true (by clear s1; omega)
    have q3 : decide (hi < lo + 21600000) = true := decide_eq_true (by clear s1; omega)
    clear h2 hN
    go_enter Tryz.func52, Tryz.ntmps52
    go_upto_region 1 with (fail)
    generalize w.alloc (.cells #[.int .i64 lo, .int .i64 hi] 32) = w1 at hb0 D0 ⊢
    have c0 : ∀ s : BV w1, s.w.cell? ⟨w.heap.size, 0, none⟩ = some (.int .i64 lo) := fun s => (s.hb.cell (p := ⟨w.heap.size, 0, none⟩) D0.out.lt).trans D0.out.c0
    have c1 : ∀ s : BV w1, s.w.cell? ⟨w.heap.size, 1, none⟩ = some (.int .i64 hi) := fun s => (s.hb.cell (p := ⟨w.heap.size, 1, none⟩) D0.out.lt).trans D0.out.c1
    refine wp_region_bv w1 (by kernel_rfl) (by kernel_rfl) (Below.refl _ _) ?_
    (repeat (go_big_quiet_step (first | (go_at_call 89; with_reducible exact quiet_bv (KA.out _)) | fail)))
    refine wpQuiet_nil ?_
    intro w9 hb9
    clear c0 c1
    go_wp2
    go_ret
    exact ⟨ret_bool (by simp), hb0.out.trans (hb9.mono hb0.out.size)⟩
set_option maxHeartbeats 1000000 in
theorem rValid08_vp (p0 p1 p2 p3 : Int) (w : World) (h : VP (p0, p1, p2, p3)) : Calls Tryz.prog 23 #[.agg #[.int .i64 p0, .int .i64 p1, .int .i64 p2, .int .i64 p3]] w fun e w' => e = .returned (.bool true) ∧ Below w.heap.size w w' := by
  have K1 := fun W => rValidLat_any p0 p1 W h.l1
  rw [decide_eq_true (show -5400000 ≤ p0 ∧ p1 ≤ 5400000 from ⟨h.l2, h.l3⟩)] at K1
  have K1 := Lib.hid K1
  have K2 := Lib.hid (fun W => rValidLon_vl p2 p3 W h.o)
  clear h
  go_enter Tryz.func23, Tryz.ntmps23
  go_wp2_with fail
  (with_reducible refine (K1.out _).mono ?_)
  rintro e w1 ⟨rfl, hb1⟩
  have B1 := Lib.hid (one_bl hb1)
  have y2 : w1.cell? ⟨w.heap.size, 2, none⟩ = some (.int .i64 p2) := (hb1.cell (p := ⟨w.heap.size, 2, none⟩) (by simp)).trans (by simp)
  have y3 : w1.cell? ⟨w.heap.size, 3, none⟩ = some (.int .i64 p3) := (hb1.cell (p := ⟨w.heap.size, 3, none⟩) (by simp)).trans (by simp)
  clear hb1
  go_wp2_with fail
  (with_reducible refine (K2.out _).mono ?_)
  rintro e w2 ⟨rfl, hb2⟩
  have B2 := Lib.hid (B1.out.trans (hb2.mono B1.out.size))
  clear hb2
  go_wp2
  go_ret
  exact ⟨ret_bool (by simp), B2.out⟩
theorem lv_of {L : List Cl} (h : AllV L) : lvOk L := fun y hy => ⟨(h y hy).l0, (h y hy).l1⟩
end Go.Proofs.YtpemohoibeipfaaGreat
namespace Go.Proofs.YtpemohoibeipfaaGreat
open Go.RowKit
def latB (a : Sp) : Bool := decide (-5400000 ≤ a.1) && (decide (a.1 ≤ a.2) && decide (a.2 ≤ 5400000))
def vlB (a : Sp) : Bool := decide ((a.1 = -10800000 ∧ a.2 = 10800000) ∨ (-10800000 ≤ a.1 ∧ a.1 < 10800000 ∧ a.1 ≤ a.2 ∧ a.2 - a.1 < 21600000))
theorem vlB_iff (a : Sp) : vlB a = true ↔ VL a := by unfold vlB VL; exact decide_eq_true_iff
def vpB (q : Bx) : Bool := latB (q.1, q.2.1) && vlB (q.2.2.1, q.2.2.2)
theorem vpB_iff (q : Bx) : vpB q = true ↔ VP q := by
  unfold vpB latB
  rw [Bool.and_eq_true, Bool.and_eq_true, Bool.and_eq_true, decide_eq_true_eq, decide_eq_true_eq, decide_eq_true_eq, vlB_iff]
  constructor
  · rintro ⟨⟨h1, h2, h3⟩, h4⟩; exact ⟨h2, h1, h3, h4⟩
  · rintro ⟨h1, h2, h3, h4⟩; exact ⟨⟨h2, h1, h3⟩, h4⟩
def vciB (k : Ci) : Bool := latB (k.1.1, k.1.2.1) && (vlB (k.1.2.2.1, k.1.2.2.2) && (decide (0 ≤ k.2.1) && (decide (k.2.1 ≤ k.2.2) && decide (k.2.2 ≤ 10800000))))
theorem vciB_iff (k : Ci) : vciB k = true ↔ VCi k := by
  have h := vpB_iff k.1
  unfold vpB at h
  rw [Bool.and_eq_true] at h
  unfold vciB
  rw [Bool.and_eq_true, Bool.and_eq_true, Bool.and_eq_true, Bool.and_eq_true, decide_eq_true_eq, decide_eq_true_eq, decide_eq_true_eq]
  constructor
  · rintro ⟨h1, h2, h3, h4, h5⟩; exact ⟨h.1 ⟨h1, h2⟩, h3, h4, h5⟩
  · rintro ⟨h1, h3, h4, h5⟩; exact ⟨(h.2 h1).1, (h.2 h1).2, h3, h4, h5⟩
set_option maxHeartbeats 1000000 in
theorem rValidLat_all (lo hi : Int) (w : World) : Calls Tryz.prog 51 #[.agg #[.int .i64 lo, .int .i64 hi]] w fun e w' => e = .returned (.bool (latB (lo, hi))) ∧ Below w.heap.size w w' := by
  unfold latB
  cases d0 : decide (-5400000 ≤ lo) <;> cases d1 : decide (lo ≤ hi) <;> cases d2 : decide (hi ≤ 5400000)
  all_goals
    go_enter Tryz.func51, Tryz.ntmps51
    go_wp2
    go_ret
    refine ⟨rfl, ?_⟩
    repeat (first | exact Below.refl _ _ | assumption | refine bl_drew ?_ | refine bl_drewN ?_ _ | refine Below.setCell ?_ (by first | assumption | omega | (simp; done) | (simp; omega)) _ | refine Below.alloc ?_ (by first | assumption | omega | (simp; done) | (simp; omega)) _)
set_option maxHeartbeats 4000000 in
set_option maxRecDepth 100000 in
theorem rValidLon_all (lo hi : Int) (w : World) : Calls Tryz.prog 52 #[.agg #[.int .i64 lo, .int .i64 hi]] w fun e w' => e = .returned (.bool (vlB (lo, hi))) ∧ Below w.heap.size w w' := by
  by_cases hv : VL (lo, hi)
  · rw [(vlB_iff (lo, hi)).2 hv]
    exact rValidLon_vl lo hi w hv
  · have hf : vlB (lo, hi) = false := by
      cases h : vlB (lo, hi) with
      | false => rfl
      | true => exact absurd ((vlB_iff _).1 h) hv
    rw [hf]
    have h' : ¬ ((lo = -10800000 ∧ hi = 10800000) ∨ (-10800000 ≤ lo ∧ lo < 10800000 ∧ lo ≤ hi ∧ hi - lo < 21600000)) := hv
    have hN2 : aeq lo hi (-10800000) 10800000 = false := by simp [aeq]; omega
    have hd : (decide (-10800000 ≤ lo) = false) ∨ (decide (-10800000 ≤ lo) = true ∧ decide (lo < 10800000) = false) ∨ (decide (-10800000 ≤ lo) = true ∧ decide (lo < 10800000) = true ∧ decide (lo ≤ hi) = false) ∨ (decide (-10800000 ≤ lo) = true ∧ decide (lo < 10800000) = true ∧ decide (lo ≤ hi) = true ∧ decide (hi < lo + 21600000) = false ∧ IntKind.i64.wrap (lo + 21600000) = lo + 21600000) := by
      simp only [decide_eq_false_iff_not, decide_eq_true_eq]
      by_cases c0 : -10800000 ≤ lo
      · by_cases c1 : lo < 10800000
        · by_cases c2 : lo ≤ hi
          · exact .inr (.inr (.inr ⟨c0, c1, c2, by omega, IntWalk.i64_in _ (by omega)⟩))
          · exact .inr (.inr (.inl ⟨c0, c1, c2⟩))
        · exact .inr (.inl ⟨c0, c1⟩)
      · exact .inl c0
    have hq := eqlArc
    have KA := Lib.hid rAll_any
    have hb0 := Lib.hid (bl_alloc w (.cells #[.int .i64 lo, .int .i64 hi] 32))
    have D0 := Lib.hid (D2.new w lo hi 32)
    clear hv hf h'
    rcases hd with q0 | ⟨q0, q1⟩ | ⟨q0, q1, q2⟩ | ⟨q0, q1, q2, q3, s1⟩
    all_goals
      go_enter Tryz.func52, Tryz.ntmps52
      go_upto_region 1 with (fail)
      generalize w.alloc (.cells #[.int .i64 lo, .int .i64 hi] 32) = w1 at hb0 D0 ⊢
      have c0 : ∀ s : BV w1, s.w.cell? ⟨w.heap.size, 0, none⟩ = some (.int .i64 lo) := fun s => (s.hb.cell (p := ⟨w.heap.size, 0, none⟩) D0.out.lt).trans D0.out.c0
      have c1 : ∀ s : BV w1, s.w.cell? ⟨w.heap.size, 1, none⟩ = some (.int .i64 hi) := fun s => (s.hb.cell (p := ⟨w.heap.size, 1, none⟩) D0.out.lt).trans D0.out.c1
      refine wp_region_bv w1 (by kernel_rfl) (by kernel_rfl) (Below.refl _ _) ?_
      (repeat (go_big_quiet_step (first | (go_at_call 89; with_reducible exact quiet_bv (KA.out _)) | fail)))
      refine wpQuiet_nil ?_
      intro w9 hb9
      clear c0 c1
      go_wp2
      go_ret
      exact ⟨ret_bool (by simp), hb0.out.trans (hb9.mono hb0.out.size)⟩
set_option maxHeartbeats 1000000 in
theorem rValid08_all (q : Bx) (w : World) : Calls Tryz.prog 23 #[.agg #[.int .i64 q.1, .int .i64 q.2.1, .int .i64 q.2.2.1, .int .i64 q.2.2.2]] w fun e w' => e = .returned (.bool (vpB q)) ∧ Below w.heap.size w w' := by
  obtain ⟨p0, p1, p2, p3⟩ := q
  unfold vpB
  simp only []
  have K1 := fun W => rValidLat_all p0 p1 W
  have K2 := fun W => rValidLon_all p2 p3 W
  generalize latB (p0, p1) = b1 at K1 ⊢
  generalize vlB (p2, p3) = b2 at K2 ⊢
  have K2 := Lib.hid K2
  cases b1 with
  | false =>
    have K1 := Lib.hid K1
    go_enter Tryz.func23, Tryz.ntmps23
    go_wp2_with fail
    (with_reducible refine (K1.out _).mono ?_)
    rintro e w1 ⟨rfl, hb1⟩
    have B1 := Lib.hid (one_bl hb1)
    clear hb1
    go_wp2
    go_ret
    exact ⟨ret_bool (by simp), B1.out⟩
  | true =>
    have K1 := Lib.hid K1
    go_enter Tryz.func23, Tryz.ntmps23
    go_wp2_with fail
    (with_reducible refine (K1.out _).mono ?_)
    rintro e w1 ⟨rfl, hb1⟩
    have B1 := Lib.hid (one_bl hb1)
    have y2 : w1.cell? ⟨w.heap.size, 2, none⟩ = some (.int .i64 p2) := (hb1.cell (p := ⟨w.heap.size, 2, none⟩) (by simp)).trans (by simp)
    have y3 : w1.cell? ⟨w.heap.size, 3, none⟩ = some (.int .i64 p3) := (hb1.cell (p := ⟨w.heap.size, 3, none⟩) (by simp)).trans (by simp)
    clear hb1
    go_wp2_with fail
    (with_reducible refine (K2.out _).mono ?_)
    rintro e w2 ⟨rfl, hb2⟩
    have B2 := Lib.hid (B1.out.trans (hb2.mono B1.out.size))
    clear hb2
    go_wp2
    go_ret
    exact ⟨ret_bool (by simp), B2.out⟩
set_option maxHeartbeats 4000000 in
set_option maxRecDepth 100000 in
theorem rValid35_all (k : Ci) (w : World) : Calls Tryz.prog 17 #[civ k] w fun e w' => e = .returned (.bool (vciB k)) ∧ Below w.heap.size w w' := by
  obtain ⟨⟨a0, a1, o0, o1⟩, r0, r1⟩ := k
  unfold civ vciB
  simp only []
  have K1 := fun W => rValidLat_all a0 a1 W
  have K2 := fun W => rValidLon_all o0 o1 W
  generalize latB (a0, a1) = b1 at K1 ⊢
  generalize vlB (o0, o1) = b2 at K2 ⊢
  have C0 := Lib.hid (Blk.new w 36 #[.int .i64 a0, .int .i64 a1, .int .i64 o0, .int .i64 o1, .int .i64 r0, .int .i64 r1])
  have B0 := Lib.hid (bl_alloc w (.cells #[.int .i64 a0, .int .i64 a1, .int .i64 o0, .int .i64 o1, .int .i64 r0, .int .i64 r1] 36))
  cases b1 with
  | false =>
    have K1 := Lib.hid K1
    clear K2
    go_enter Tryz.func17, Tryz.ntmps17
    go_wp2_with fail
    (with_reducible refine (K1.out _).mono ?_)
    rintro e w1 ⟨rfl, hb1⟩
    have B1 := Lib.hid (B0.out.trans (hb1.mono B0.out.size))
    clear hb1 C0 B0
    go_wp2
    go_ret
    exact ⟨ret_bool (by simp), B1.out⟩
  | true =>
    have K1 := Lib.hid K1
    cases b2 with
    | false =>
      have K2 := Lib.hid K2
      go_enter Tryz.func17, Tryz.ntmps17
      go_wp2_with fail
      (with_reducible refine (K1.out _).mono ?_)
      rintro e w1 ⟨rfl, hb1⟩
      have B1 := Lib.hid (B0.out.trans (hb1.mono B0.out.size))
      have C1 := Lib.hid (C0.out.below hb1 C0.out.lt)
      have y2 : w1.cell? ⟨w.heap.size, 2, none⟩ = some (.int .i64 o0) := C1.out.cell 2
      have y3 : w1.cell? ⟨w.heap.size, 3, none⟩ = some (.int .i64 o1) := C1.out.cell 3
      clear hb1 C0 B0
      go_wp2_with fail
      (with_reducible refine (K2.out _).mono ?_)
      rintro e w2 ⟨rfl, hb2⟩
      have B2 := Lib.hid (B1.out.trans (hb2.mono B1.out.size))
      clear hb2 y2 y3
      go_wp2
      go_ret
      exact ⟨ret_bool (by simp), B2.out⟩
    | true =>
      have K2 := Lib.hid K2
      cases d3 : decide (0 ≤ r0) <;> cases d4 : decide (r0 ≤ r1) <;> cases d5 : decide (r1 ≤ 10800000)
      all_goals
        go_enter Tryz.func17, Tryz.ntmps17
        go_wp2_with fail
        (with_reducible refine (K1.out _).mono ?_)
        rintro e w1 ⟨rfl, hb1⟩
        have B1 := Lib.hid (B0.out.trans (hb1.mono B0.out.size))
        have C1 := Lib.hid (C0.out.below hb1 C0.out.lt)
        have y2 : w1.cell? ⟨w.heap.size, 2, none⟩ = some (.int .i64 o0) := C1.out.cell 2
        have y3 : w1.cell? ⟨w.heap.size, 3, none⟩ = some (.int .i64 o1) := C1.out.cell 3
        clear hb1 C0 B0
        go_wp2_with fail
        (with_reducible refine (K2.out _).mono ?_)
        rintro e w2 ⟨rfl, hb2⟩
        have B2 := Lib.hid (B1.out.trans (hb2.mono B1.out.size))
        have C2 := Lib.hid (C1.out.below hb2 C1.out.lt)
        have k4 : w2.cell? ⟨w.heap.size, 4, none⟩ = some (.int .i64 r0) := C2.out.cell 4
        have k5 : w2.cell? ⟨w.heap.size, 5, none⟩ = some (.int .i64 r1) := C2.out.cell 5
        clear hb2 y2 y3
        go_wp2
        go_ret
        exact ⟨ret_bool (by simp), B2.out⟩
/-! ### lists of circles -/
def civl (k : Ci) : List Value := [.int .i64 k.1.1, .int .i64 k.1.2.1, .int .i64 k.1.2.2.1, .int .i64 k.1.2.2.2, .int .i64 k.2.1, .int .i64 k.2.2]
def civs (L : List Ci) : List Value := L.flatMap civl
def gci (L : List Ci) (k : Nat) : Ci := L.getD k ((0, 0, 0, 0), 0, 0)
theorem civs_length (L : List Ci) : (civs L).length = L.length * 6 := by
  induction L with
  | nil => rfl
  | cons x r ih => simp [civs, civl] at ih ⊢; omega
theorem gci_mem (L : List Ci) (k : Nat) (hk : k < L.length) : gci L k ∈ L := by simp [gci, hk]
theorem civs_at : ∀ (L : List Ci) (k : Nat), k < L.length → ∀ j, j < 6 → (civs L)[k * 6 + j]? = (civl (gci L k))[j]?
  | [], k, hk => by simp at hk
  | x :: r, 0, hk => fun j hj => by
    have hc : civs (x :: r) = civl x ++ civs r := rfl
    rw [hc, Nat.zero_mul, Nat.zero_add, List.getElem?_append_left (by simp [civl]; omega)]
    rfl
  | x :: r, k + 1, hk => fun j hj => by
    have hc : civs (x :: r) = civl x ++ civs r := rfl
    have hl : (civl x).length = 6 := rfl
    have e1 : (k + 1) * 6 + j - 6 = k * 6 + j := by omega
    rw [hc, List.getElem?_append_right (by rw [hl]; omega), hl, e1, civs_at r k (by simpa using hk) j hj]
    rfl
theorem Reads.lenC {w : World} {B n : Nat} {A : Option Addr} {L : List Ci} (h : Reads w B 6 A n (civs L)) : L.length = n := by
  have := h.1
  rw [civs_length] at this
  omega
/-- the numbers of one circle of a slice -/
structure CAt (w : World) (b o : Nat) (x : Ci) : Prop where
  c0 : w.cell? ⟨b, o, none⟩ = some (.int .i64 x.1.1)
  c1 : w.cell? ⟨b, o + 1, none⟩ = some (.int .i64 x.1.2.1)
  c2 : w.cell? ⟨b, o + 2, none⟩ = some (.int .i64 x.1.2.2.1)
  c3 : w.cell? ⟨b, o + 3, none⟩ = some (.int .i64 x.1.2.2.2)
  c4 : w.cell? ⟨b, o + 4, none⟩ = some (.int .i64 x.2.1)
  c5 : w.cell? ⟨b, o + 5, none⟩ = some (.int .i64 x.2.2)
theorem CAt.below {w w' : World} {b o B : Nat} {x : Ci} (h : CAt w b o x) (hb : Below B w w') (hB : b < B) : CAt w' b o x :=
  ⟨(hb.cell (p := ⟨b, o, none⟩) hB).trans h.c0, (hb.cell (p := ⟨b, o + 1, none⟩) hB).trans h.c1, (hb.cell (p := ⟨b, o + 2, none⟩) hB).trans h.c2, (hb.cell (p := ⟨b, o + 3, none⟩) hB).trans h.c3, (hb.cell (p := ⟨b, o + 4, none⟩) hB).trans h.c4, (hb.cell (p := ⟨b, o + 5, none⟩) hB).trans h.c5⟩
theorem Reads.elemC {w : World} {B n : Nat} {A : Option Addr} {L : List Ci} (h : Reads w B 6 A n (civs L)) {k : Nat} (hk : k < n) :
    ∃ b off, A = some ⟨b, off, none⟩ ∧ b < B ∧ CAt w b (off + k * 6) (gci L k) := by
  have hl := h.lenC
  obtain ⟨ad, rfl, hb, hc⟩ := h.2 (by omega)
  obtain ⟨b, off, spot⟩ := ad
  have z1 := civs_at L 0 (by omega) 0 (by omega)
  have hspot : spot = none := by simpa [Addr.add] using World.cell?_spot (hc 0 _ (by simpa [civl] using z1))
  subst hspot
  have y := civs_at L k (by omega)
  have c : ∀ j u, j < 6 → (civl (gci L k))[j]? = some u → w.cell? ⟨b, off + (k * 6 + j), none⟩ = some u := by
    intro j u hj hu
    have := hc (k * 6 + j) u ((y j hj).trans hu)
    rw [Go.WideShapes.add_plain] at this
    exact this
  exact ⟨b, off, rfl, hb, c 0 _ (by omega) rfl, c 1 _ (by omega) rfl, c 2 _ (by omega) rfl, c 3 _ (by omega) rfl, c 4 _ (by omega) rfl, c 5 _ (by omega) rfl⟩
theorem anyC_take (L : List Ci) (p : Ci → Bool) (k : Nat) (hk : k < L.length) (h : (L.take k).any p = false) : p (gci L k) = false → (L.take (k + 1)).any p = false := by
  intro hp
  rw [List.take_succ_eq_append_getElem hk, List.any_append, h]
  simpa [gci, hk] using hp
theorem anyC_of (L : List Ci) (p : Ci → Bool) (k : Nat) (hk : k < L.length) : p (gci L k) = true → L.any p = true := fun hp => List.any_eq_true.2 ⟨_, gci_mem L k hk, hp⟩
set_option maxHeartbeats 1000000 in
set_option maxRecDepth 100000 in
theorem idxC_any (g : Nat) (lb : Array Value) (p : Ci → Bool) (eg : ∀ args w, (callFunc g args).run Tryz.prog w = .ok (.enter g args) w) (A : Option Addr) (n c : Nat) (L : List Ci) (w : World)
    (hr : Reads w w.heap.size 6 A n (civs L)) (hn : n ≤ maxLen) (hp : ∀ (W : World) (x : Ci), x ∈ L → Below w.heap.size w W → Calls Tryz.prog g (#[civ x] ++ lb) W fun e w' => e = .returned (.bool (p x)) ∧ Below W.heap.size W w') :
    Calls Tryz.prog 160 #[.slice A n c, .func (.func g) #[] lb] w (IdxPost w (L.any p)) := by
  have HL := Lib.hid hr.lenC
  have HR := Lib.hid hr
  have HP := Lib.hid hp
  clear hr hp
  unfold maxLen at hn
  go_enter Tryz.func160, Tryz.ntmps160
  go_wp2
  go_loopg [8] n (fun gg s8 wr => ∃ kk : Nat, kk ≤ n ∧ n - kk ≤ gg ∧ s8 = .int .i64 kk ∧ Below w.heap.size w wr ∧ (L.take kk).any p = false)
  case atStart => exact ⟨0, Nat.zero_le _, by omega, rfl, Below.refl _ w, rfl⟩
  case round =>
    obtain ⟨kk, hkk, hg, rfl, BW, HA⟩ := hrel
    have HA := Lib.hid HA
    by_cases hlt : kk < n
    · obtain ⟨b, off, rfl, hb, hx⟩ := HR.out.elemC hlt
      obtain ⟨y0, y1, y2, y3, y4, y5⟩ := hx.below BW hb
      clear hx
      have hcall := HP.out wr (gci L kk) (gci_mem L kk (by rw [HL.out]; exact hlt)) BW
      have h1 := Lib.hid (anyC_take L p kk (by rw [HL.out]; exact hlt) HA.out)
      have h2 := Lib.hid (anyC_of L p kk (by rw [HL.out]; exact hlt))
      unfold civ at hcall
      cases hq : p (gci L kk) with
      | true =>
        have h3 := Lib.hid (h2.out hq)
        rw [hq] at hcall
        have hcall := Lib.hid hcall
        clear hq h1 h2
        go_wp2_with (go_at_fn g; refine hcall.out.mono ?_; rintro e w' ⟨rfl, hb'⟩)
        go_ret
        exact ⟨kk, rfl, by rw [h3.out]; simp, BW.trans (hb'.mono BW.size)⟩
      | false =>
        have h3 := Lib.hid (h1.out hq)
        rw [hq] at hcall
        have hcall := Lib.hid hcall
        clear hq h1 h2
        go_wp2_with (go_at_fn g; refine hcall.out.mono ?_; rintro e w' ⟨rfl, hb'⟩)
        go_roundg (n - (kk + 1))
        case measure => omega
        case rel => exact ⟨kk + 1, by omega, by omega, by go_num, BW.trans (hb'.mono BW.size), h3.out⟩
    · go_wp2
      go_ret
      have h := HA.out
      rw [List.take_of_length_le (by rw [HL.out]; omega)] at h
      exact ⟨-1, rfl, by rw [h]; rfl, BW⟩
set_option maxHeartbeats 1000000 in
theorem contC_any (g : Nat) (lb : Array Value) (p : Ci → Bool) (eg : ∀ args w, (callFunc g args).run Tryz.prog w = .ok (.enter g args) w) (A : Option Addr) (n c : Nat) (L : List Ci) (w : World)
    (hr : Reads w w.heap.size 6 A n (civs L)) (hn : n ≤ maxLen) (hp : ∀ (W : World) (x : Ci), x ∈ L → Below w.heap.size w W → Calls Tryz.prog g (#[civ x] ++ lb) W fun e w' => e = .returned (.bool (p x)) ∧ Below W.heap.size W w') :
    Calls Tryz.prog 130 #[.slice A n c, .func (.func g) #[] lb] w fun e w' => e = .returned (.bool (L.any p)) ∧ Below w.heap.size w w' := by
  have H := Lib.hid (idxC_any g lb p eg A n c L w hr hn hp)
  clear hp hr hn eg
  go_enter Tryz.func130, Tryz.ntmps130
  go_wp2_with (go_at_call 160; refine H.out.mono ?_; rintro e w1 ⟨k, rfl, hk, hb⟩; have HK := Lib.hid hk; clear hk)
  go_ret
  exact ⟨ret_bool HK.out, hb⟩
theorem allC_take (L : List Ci) (p : Ci → Bool) (k : Nat) (hk : k < L.length) (h : (L.take k).all p = true) : p (gci L k) = true → (L.take (k + 1)).all p = true := by
  intro hp
  rw [List.take_succ_eq_append_getElem hk, List.all_append, h]
  simpa [gci, hk] using hp
theorem allC_of (L : List Ci) (p : Ci → Bool) (k : Nat) (hk : k < L.length) : p (gci L k) = false → L.all p = false := fun hp => by
  cases h : L.all p with
  | false => rfl
  | true => rw [List.all_eq_true.1 h _ (gci_mem L k hk)] at hp; cases hp
set_option maxHeartbeats 1000000 in
set_option maxRecDepth 100000 in
theorem rValid39_any (A : Option Addr) (n c : Nat) (L : List Ci) (w : World) (hr : Reads w w.heap.size 6 A n (civs L)) (hn : n ≤ maxLen) :
    Calls Tryz.prog 16 #[.slice A n c] w fun e w' => e = .returned (.bool (L.all vciB)) ∧ Below w.heap.size w w' := by
  have HL := Lib.hid hr.lenC
  have HR := Lib.hid hr
  clear hr
  unfold maxLen at hn
  go_enter Tryz.func16, Tryz.ntmps16
  go_wp2
  go_loopg [3] n (fun gg s3 wr => ∃ kk : Nat, kk ≤ n ∧ n - kk ≤ gg ∧ s3 = .int .i64 kk ∧ Below w.heap.size w wr ∧ (L.take kk).all vciB = true)
  case atStart => exact ⟨0, Nat.zero_le _, by omega, rfl, Below.refl _ w, rfl⟩
  case round =>
    obtain ⟨kk, hkk, hg, rfl, BW, HA⟩ := hrel
    have HA := Lib.hid HA
    by_cases hlt : kk < n
    · obtain ⟨b, off, rfl, hb, hx⟩ := HR.out.elemC hlt
      obtain ⟨y0, y1, y2, y3, y4, y5⟩ := hx.below BW hb
      clear hx
      have hcall := rValid35_all (gci L kk) wr
      have h1 := Lib.hid (allC_take L vciB kk (by rw [HL.out]; exact hlt) HA.out)
      have h2 := Lib.hid (allC_of L vciB kk (by rw [HL.out]; exact hlt))
      unfold civ at hcall
      cases hq : vciB (gci L kk) with
      | true =>
        have h3 := Lib.hid (h1.out hq)
        rw [hq] at hcall
        have hcall := Lib.hid hcall
        clear hq h1 h2
        go_wp2_with fail
        (with_reducible refine (hcall.out).mono ?_)
        rintro e w' ⟨rfl, hb'⟩
        go_wp2
        go_roundg (n - (kk + 1))
        case measure => omega
        case rel => exact ⟨kk + 1, by omega, by omega, by go_num, BW.trans (hb'.mono BW.size), h3.out⟩
      | false =>
        have h3 := Lib.hid (h2.out hq)
        rw [hq] at hcall
        have hcall := Lib.hid hcall
        clear hq h1 h2
        go_wp2_with fail
        (with_reducible refine (hcall.out).mono ?_)
        rintro e w' ⟨rfl, hb'⟩
        go_wp2
        go_ret
        exact ⟨ret_bool h3.out.symm, BW.trans (hb'.mono BW.size)⟩
    · go_wp2
      go_ret
      have h := HA.out
      rw [List.take_of_length_le (by rw [HL.out]; omega)] at h
      exact ⟨ret_bool h.symm, BW⟩
end Go.Proofs.YtpemohoibeipfaaGreat
