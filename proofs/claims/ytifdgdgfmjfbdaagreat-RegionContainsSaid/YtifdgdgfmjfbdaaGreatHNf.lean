/- The walks of angle.Add at any arcs, of cosine.Valid and cosine.Altitude at any triangle, and of circles.latitude. -/
import Derived.Test.YtifdgdgfmjfbdaaGreatHNd
import Derived.Test.YtifdgdgfmjfbdaaGreatHKz
import Derived.Test.YtifdgdgfmjfbdaaGreatHKx
import Derived.Test.YtifdgdgfmjfbdaaGreatHPa
set_option linter.unusedVariables false
set_option linter.unusedSimpArgs false
namespace Go.Proofs.YtifdgdgfmjfbdaaGreat
open Go.RowKit
def latB (a : Sp) : Bool := decide (-5400000 ≤ a.1) && (decide (a.1 ≤ a.2) && decide (a.2 ≤ 5400000))
def vlB (a : Sp) : Bool := decide ((a.1 = -10800000 ∧ a.2 = 10800000) ∨ (-10800000 ≤ a.1 ∧ a.1 < 10800000 ∧ a.1 ≤ a.2 ∧ a.2 - a.1 < 21600000))
theorem vlB_iff (a : Sp) : vlB a = true ↔ VL a := by unfold vlB VL; exact decide_eq_true_iff
def vpB (q : Bx) : Bool := latB (q.1, q.2.1) && vlB (q.2.2.1, q.2.2.2)
theorem vpB_iff (q : Bx) : vpB q = true ↔ VP q := by
  unfold vpB latB
  rw [Bool.and_eq_true, Bool.and_eq_true, Bool.and_eq_true, decide_eq_true_eq, decide_eq_true_eq, decide_eq_true_eq, vlB_iff]
  constructor
  · rintro ⟨⟨h1, h2, h3⟩, h4⟩; exact ⟨h2, h1, h3, h4⟩
  · rintro ⟨h1, h2, h3, h4⟩; exact ⟨⟨h2, h1, h3⟩, h4⟩
def vciB (k : Ci) : Bool := latB (k.1.1, k.1.2.1) && (vlB (k.1.2.2.1, k.1.2.2.2) && (decide (0 ≤ k.2.1) && (decide (k.2.1 ≤ k.2.2) && decide (k.2.2 ≤ 10800000))))
theorem vciB_iff (k : Ci) : vciB k = true ↔ VCi k := by
  have h := vpB_iff k.1
  unfold vpB at h
  rw [Bool.and_eq_true] at h
  unfold vciB
  rw [Bool.and_eq_true, Bool.and_eq_true, Bool.and_eq_true, Bool.and_eq_true, decide_eq_true_eq, decide_eq_true_eq, decide_eq_true_eq]
  constructor
  · rintro ⟨h1, h2, h3, h4, h5⟩; exact ⟨h.1 ⟨h1, h2⟩, h3, h4, h5⟩
  · rintro ⟨h1, h3, h4, h5⟩; exact ⟨(h.2 h1).1, (h.2 h1).2, h3, h4, h5⟩
set_option maxHeartbeats 1000000 in
theorem rValidLat_all (lo hi : Int) (w : World) : Calls Tryz.prog 60 #[.agg #[.int .i64 lo, .int .i64 hi]] w fun e w' => e = .returned (.bool (latB (lo, hi))) ∧ Below w.heap.size w w' := by
  unfold latB
  cases d0 : decide (-5400000 ≤ lo) <;> cases d1 : decide (lo ≤ hi) <;> cases d2 : decide (hi ≤ 5400000)
  all_goals
    go_enter Tryz.func60, Tryz.ntmps60
    go_wp2
    go_ret
    refine ⟨rfl, ?_⟩
    repeat (first | exact Below.refl _ _ | assumption | refine bl_drew ?_ | refine bl_drewN ?_ _ | refine Below.setCell ?_ (by first | assumption | omega | (simp; done) | (simp; omega)) _ | refine Below.alloc ?_ (by first | assumption | omega | (simp; done) | (simp; omega)) _)
set_option maxHeartbeats 4000000 in
set_option maxRecDepth 100000 in
theorem rValidLon_all (lo hi : Int) (w : World) : Calls Tryz.prog 164 #[.agg #[.int .i64 lo, .int .i64 hi]] w fun e w' => e = .returned (.bool (vlB (lo, hi))) ∧ Below w.heap.size w w' := by
  by_cases hv : VL (lo, hi)
  · rw [(vlB_iff (lo, hi)).2 hv]
    exact rValidLon_vl lo hi w hv
  · have hf : vlB (lo, hi) = false := by
      cases h : vlB (lo, hi) with
      | false => rfl
      | true => exact absurd ((vlB_iff _).1 h) hv
    rw [hf]
    have h' : ¬ ((lo = -10800000 ∧ hi = 10800000) ∨ (-10800000 ≤ lo ∧ lo < 10800000 ∧ lo ≤ hi ∧ hi - lo < 21600000)) := hv
    have hN2 : aeq lo hi (-10800000) 10800000 = false := by simp [aeq]; omega
    have hd : (decide (-10800000 ≤ lo) = false) ∨ (decide (-10800000 ≤ lo) = true ∧ decide (lo < 10800000) = false) ∨ (decide (-10800000 ≤ lo) = true ∧ decide (lo < 10800000) = true ∧ decide (lo ≤ hi) = false) ∨ (decide (-10800000 ≤ lo) = true ∧ decide (lo < 10800000) = true ∧ decide (lo ≤ hi) = true ∧ decide (hi < lo + 21600000) = false ∧ IntKind.i64.wrap (lo + 21600000) = lo + 21600000) := by
      simp only [decide_eq_false_iff_not, decide_eq_true_eq]
      by_cases c0 : -10800000 ≤ lo
      · by_cases c1 : lo < 10800000
        · by_cases c2 : lo ≤ hi
          · exact .inr (.inr (.inr ⟨c0, c1, c2, by omega, IntWalk.i64_in _ (by omega)⟩))
          · exact .inr (.inr (.inl ⟨c0, c1, c2⟩))
        · exact .inr (.inl ⟨c0, c1⟩)
      · exact .inl c0
    have hq := eqlArc
    have KA := Lib.hid rAll_any
    have hb0 := Lib.hid (bl_alloc w (.cells #[.int .i64 lo, .int .i64 hi] 29))
    have D0 := Lib.hid (D2.new w lo hi 29)
    clear hv hf h'
    rcases hd with q0 | ⟨q0, q1⟩ | ⟨q0, q1, q2⟩ | ⟨q0, q1, q2, q3, s1⟩
    all_goals
      go_enter Tryz.func164, Tryz.ntmps164
      go_upto_region 1 with (fail)
      generalize w.alloc (.cells #[.int .i64 lo, .int .i64 hi] 29) = w1 at hb0 D0 ⊢
      have c0 : ∀ s : BV w1, s.w.cell? ⟨w.heap.size, 0, none⟩ = some (.int .i64 lo) := fun s => (s.hb.cell (p := ⟨w.heap.size, 0, none⟩) D0.out.lt).trans D0.out.c0
      have c1 : ∀ s : BV w1, s.w.cell? ⟨w.heap.size, 1, none⟩ = some (.int .i64 hi) := fun s => (s.hb.cell (p := ⟨w.heap.size, 1, none⟩) D0.out.lt).trans D0.out.c1
      refine wp_region_bv w1 (by kernel_rfl) (by kernel_rfl) (Below.refl _ _) ?_
      (repeat (go_big_quiet_step (first | (go_at_call 192; with_reducible exact quiet_bv (KA.out _)) | fail)))
      refine wpQuiet_nil ?_
      intro w9 hb9
      clear c0 c1
      go_wp2
      go_ret
      exact ⟨ret_bool (by simp), hb0.out.trans (hb9.mono hb0.out.size)⟩
set_option maxHeartbeats 4000000 in
set_option maxRecDepth 100000 in
theorem rValid35_all (k : Ci) (w : World) : Calls Tryz.prog 146 #[civ k] w fun e w' => e = .returned (.bool (vciB k)) ∧ Below w.heap.size w w' := by
  obtain ⟨⟨a0, a1, o0, o1⟩, r0, r1⟩ := k
  unfold civ vciB
  simp only []
  have K1 := fun W => rValidLat_all a0 a1 W
  have K2 := fun W => rValidLon_all o0 o1 W
  generalize latB (a0, a1) = b1 at K1 ⊢
  generalize vlB (o0, o1) = b2 at K2 ⊢
  have C0 := Lib.hid (Blk.new w 39 #[.int .i64 a0, .int .i64 a1, .int .i64 o0, .int .i64 o1, .int .i64 r0, .int .i64 r1])
  have B0 := Lib.hid (bl_alloc w (.cells #[.int .i64 a0, .int .i64 a1, .int .i64 o0, .int .i64 o1, .int .i64 r0, .int .i64 r1] 39))
  cases b1 with
  | false =>
    have K1 := Lib.hid K1
    clear K2
    go_enter Tryz.func146, Tryz.ntmps146
    go_wp2_with fail
    (with_reducible refine (K1.out _).mono ?_)
    rintro e w1 ⟨rfl, hb1⟩
    have B1 := Lib.hid (B0.out.trans (hb1.mono B0.out.size))
    clear hb1 C0 B0
    go_wp2
    go_ret
    exact ⟨ret_bool (by simp), B1.out⟩
  | true =>
    have K1 := Lib.hid K1
    cases b2 with
    | false =>
      have K2 := Lib.hid K2
      go_enter Tryz.func146, Tryz.ntmps146
      go_wp2_with fail
      (with_reducible refine (K1.out _).mono ?_)
      rintro e w1 ⟨rfl, hb1⟩
      have B1 := Lib.hid (B0.out.trans (hb1.mono B0.out.size))
      have C1 := Lib.hid (C0.out.below hb1 C0.out.lt)
      have y2 : w1.cell? ⟨w.heap.size, 2, none⟩ = some (.int .i64 o0) := C1.out.cell 2
      have y3 : w1.cell? ⟨w.heap.size, 3, none⟩ = some (.int .i64 o1) := C1.out.cell 3
      clear hb1 C0 B0
      go_wp2_with fail
      (with_reducible refine (K2.out _).mono ?_)
      rintro e w2 ⟨rfl, hb2⟩
      have B2 := Lib.hid (B1.out.trans (hb2.mono B1.out.size))
      clear hb2 y2 y3
      go_wp2
      go_ret
      exact ⟨ret_bool (by simp), B2.out⟩
    | true =>
      have K2 := Lib.hid K2
      cases d3 : decide (0 ≤ r0) <;> cases d4 : decide (r0 ≤ r1) <;> cases d5 : decide (r1 ≤ 10800000)
      all_goals
        go_enter Tryz.func146, Tryz.ntmps146
        go_wp2_with fail
        (with_reducible refine (K1.out _).mono ?_)
        rintro e w1 ⟨rfl, hb1⟩
        have B1 := Lib.hid (B0.out.trans (hb1.mono B0.out.size))
        have C1 := Lib.hid (C0.out.below hb1 C0.out.lt)
        have y2 : w1.cell? ⟨w.heap.size, 2, none⟩ = some (.int .i64 o0) := C1.out.cell 2
        have y3 : w1.cell? ⟨w.heap.size, 3, none⟩ = some (.int .i64 o1) := C1.out.cell 3
        clear hb1 C0 B0
        go_wp2_with fail
        (with_reducible refine (K2.out _).mono ?_)
        rintro e w2 ⟨rfl, hb2⟩
        have B2 := Lib.hid (B1.out.trans (hb2.mono B1.out.size))
        have C2 := Lib.hid (C1.out.below hb2 C1.out.lt)
        have k4 : w2.cell? ⟨w.heap.size, 4, none⟩ = some (.int .i64 r0) := C2.out.cell 4
        have k5 : w2.cell? ⟨w.heap.size, 5, none⟩ = some (.int .i64 r1) := C2.out.cell 5
        clear hb2 y2 y3
        go_wp2
        go_ret
        exact ⟨ret_bool (by simp), B2.out⟩
/-! ### lists of circles -/
def civl (k : Ci) : List Value := [.int .i64 k.1.1, .int .i64 k.1.2.1, .int .i64 k.1.2.2.1, .int .i64 k.1.2.2.2, .int .i64 k.2.1, .int .i64 k.2.2]
def civs (L : List Ci) : List Value := L.flatMap civl
def gci (L : List Ci) (k : Nat) : Ci := L.getD k ((0, 0, 0, 0), 0, 0)
theorem civs_length (L : List Ci) : (civs L).length = L.length * 6 := by
  induction L with
  | nil => rfl
  | cons x r ih => simp [civs, civl] at ih ⊢; omega
theorem civs_append (L M : List Ci) : civs (L ++ M) = civs L ++ civs M := by simp [civs]
theorem civl_one (x : Ci) : ∀ u ∈ civl x, u.oneCell' = true := by
  intro u hu
  simp [civl] at hu
  rcases hu with rfl | rfl | rfl | rfl | rfl | rfl <;> rfl
theorem gci_mem (L : List Ci) (k : Nat) (hk : k < L.length) : gci L k ∈ L := by simp [gci, hk]
theorem civs_at : ∀ (L : List Ci) (k : Nat), k < L.length → ∀ j, j < 6 → (civs L)[k * 6 + j]? = (civl (gci L k))[j]?
  | [], k, hk => by simp at hk
  | x :: r, 0, hk => fun j hj => by
    have hc : civs (x :: r) = civl x ++ civs r := rfl
    rw [hc, Nat.zero_mul, Nat.zero_add, List.getElem?_append_left (by simp [civl]; omega)]
    rfl
  | x :: r, k + 1, hk => fun j hj => by
    have hc : civs (x :: r) = civl x ++ civs r := rfl
    have hl : (civl x).length = 6 := rfl
    have e1 : (k + 1) * 6 + j - 6 = k * 6 + j := by omega
    rw [hc, List.getElem?_append_right (by rw [hl]; omega), hl, e1, civs_at r k (by simpa using hk) j hj]
    rfl
theorem Reads.lenC {w : World} {B n : Nat} {A : Option Addr} {L : List Ci} (h : Reads w B 6 A n (civs L)) : L.length = n := by
  have := h.1
  rw [civs_length] at this
  omega
/-- the numbers of one circle of a slice -/
structure CAt (w : World) (b o : Nat) (x : Ci) : Prop where
  c0 : w.cell? ⟨b, o, none⟩ = some (.int .i64 x.1.1)
  c1 : w.cell? ⟨b, o + 1, none⟩ = some (.int .i64 x.1.2.1)
  c2 : w.cell? ⟨b, o + 2, none⟩ = some (.int .i64 x.1.2.2.1)
  c3 : w.cell? ⟨b, o + 3, none⟩ = some (.int .i64 x.1.2.2.2)
  c4 : w.cell? ⟨b, o + 4, none⟩ = some (.int .i64 x.2.1)
  c5 : w.cell? ⟨b, o + 5, none⟩ = some (.int .i64 x.2.2)
theorem CAt.below {w w' : World} {b o B : Nat} {x : Ci} (h : CAt w b o x) (hb : Below B w w') (hB : b < B) : CAt w' b o x :=
  ⟨(hb.cell (p := ⟨b, o, none⟩) hB).trans h.c0, (hb.cell (p := ⟨b, o + 1, none⟩) hB).trans h.c1, (hb.cell (p := ⟨b, o + 2, none⟩) hB).trans h.c2, (hb.cell (p := ⟨b, o + 3, none⟩) hB).trans h.c3, (hb.cell (p := ⟨b, o + 4, none⟩) hB).trans h.c4, (hb.cell (p := ⟨b, o + 5, none⟩) hB).trans h.c5⟩
theorem Reads.elemC {w : World} {B n : Nat} {A : Option Addr} {L : List Ci} (h : Reads w B 6 A n (civs L)) {k : Nat} (hk : k < n) :
    ∃ b off, A = some ⟨b, off, none⟩ ∧ b < B ∧ CAt w b (off + k * 6) (gci L k) := by
  have hl := h.lenC
  obtain ⟨ad, rfl, hb, hc⟩ := h.2 (by omega)
  obtain ⟨b, off, spot⟩ := ad
  have z1 := civs_at L 0 (by omega) 0 (by omega)
  have hspot : spot = none := by simpa [Addr.add] using World.cell?_spot (hc 0 _ (by simpa [civl] using z1))
  subst hspot
  have y := civs_at L k (by omega)
  have c : ∀ j u, j < 6 → (civl (gci L k))[j]? = some u → w.cell? ⟨b, off + (k * 6 + j), none⟩ = some u := by
    intro j u hj hu
    have := hc (k * 6 + j) u ((y j hj).trans hu)
    rw [Go.WideShapes.add_plain] at this
    exact this
  exact ⟨b, off, rfl, hb, c 0 _ (by omega) rfl, c 1 _ (by omega) rfl, c 2 _ (by omega) rfl, c 3 _ (by omega) rfl, c 4 _ (by omega) rfl, c 5 _ (by omega) rfl⟩
theorem anyC_take (L : List Ci) (p : Ci → Bool) (k : Nat) (hk : k < L.length) (h : (L.take k).any p = false) : p (gci L k) = false → (L.take (k + 1)).any p = false := by
  intro hp
  rw [List.take_succ_eq_append_getElem hk, List.any_append, h]
  simpa [gci, hk] using hp
theorem anyC_of (L : List Ci) (p : Ci → Bool) (k : Nat) (hk : k < L.length) : p (gci L k) = true → L.any p = true := fun hp => List.any_eq_true.2 ⟨_, gci_mem L k hk, hp⟩
set_option maxHeartbeats 1000000 in
set_option maxRecDepth 100000 in
theorem idxC_any (g : Nat) (lb : Array Value) (p : Ci → Bool) (eg : ∀ args w, (callFunc g args).run Tryz.prog w = .ok (.enter g args) w) (A : Option Addr) (n c : Nat) (L : List Ci) (w : World)
    (hr : Reads w w.heap.size 6 A n (civs L)) (hn : n ≤ maxLen) (hp : ∀ (W : World) (x : Ci), x ∈ L → Below w.heap.size w W → Calls Tryz.prog g (#[civ x] ++ lb) W fun e w' => e = .returned (.bool (p x)) ∧ Below W.heap.size W w') :
    Calls Tryz.prog 221 #[.slice A n c, .func (.func g) #[] lb] w (IdxPost w (L.any p)) := by
  have HL := Lib.hid hr.lenC
  have HR := Lib.hid hr
  have HP := Lib.hid hp
  clear hr hp
  unfold maxLen at hn
  go_enter Tryz.func221, Tryz.ntmps221
  go_wp2
  go_loopg [8] n (fun gg s8 wr => ∃ kk : Nat, kk ≤ n ∧ n - kk ≤ gg ∧ s8 = .int .i64 kk ∧ Below w.heap.size w wr ∧ (L.take kk).any p = false)
  case atStart => exact ⟨0, Nat.zero_le _, by omega, rfl, Below.refl _ w, rfl⟩
  case round =>
    obtain ⟨kk, hkk, hg, rfl, BW, HA⟩ := hrel
    have HA := Lib.hid HA
    by_cases hlt : kk < n
    · obtain ⟨b, off, rfl, hb, hx⟩ := HR.out.elemC hlt
      obtain ⟨y0, y1, y2, y3, y4, y5⟩ := hx.below BW hb
      clear hx
      have hcall := HP.out wr (gci L kk) (gci_mem L kk (by rw [HL.out]; exact hlt)) BW
      have h1 := Lib.hid (anyC_take L p kk (by rw [HL.out]; exact hlt) HA.out)
      have h2 := Lib.hid (anyC_of L p kk (by rw [HL.out]; exact hlt))
      unfold civ at hcall
      cases hq : p (gci L kk) with
      | true =>
        have h3 := Lib.hid (h2.out hq)
        rw [hq] at hcall
        have hcall := Lib.hid hcall
        clear hq h1 h2
        go_wp2_with (go_at_fn g; refine hcall.out.mono ?_; rintro e w' ⟨rfl, hb'⟩)
        go_ret
        exact ⟨kk, rfl, by rw [h3.out]; simp, BW.trans (hb'.mono BW.size)⟩
      | false =>
        have h3 := Lib.hid (h1.out hq)
        rw [hq] at hcall
        have hcall := Lib.hid hcall
        clear hq h1 h2
        go_wp2_with (go_at_fn g; refine hcall.out.mono ?_; rintro e w' ⟨rfl, hb'⟩)
        go_roundg (n - (kk + 1))
        case measure => omega
        case rel => exact ⟨kk + 1, by omega, by omega, by go_num, BW.trans (hb'.mono BW.size), h3.out⟩
    · go_wp2
      go_ret
      have h := HA.out
      rw [List.take_of_length_le (by rw [HL.out]; omega)] at h
      exact ⟨-1, rfl, by rw [h]; rfl, BW⟩
set_option maxHeartbeats 1000000 in
theorem contC_any (g : Nat) (lb : Array Value) (p : Ci → Bool) (eg : ∀ args w, (callFunc g args).run Tryz.prog w = .ok (.enter g args) w) (A : Option Addr) (n c : Nat) (L : List Ci) (w : World)
    (hr : Reads w w.heap.size 6 A n (civs L)) (hn : n ≤ maxLen) (hp : ∀ (W : World) (x : Ci), x ∈ L → Below w.heap.size w W → Calls Tryz.prog g (#[civ x] ++ lb) W fun e w' => e = .returned (.bool (p x)) ∧ Below W.heap.size W w') :
    Calls Tryz.prog 171 #[.slice A n c, .func (.func g) #[] lb] w fun e w' => e = .returned (.bool (L.any p)) ∧ Below w.heap.size w w' := by
  have H := Lib.hid (idxC_any g lb p eg A n c L w hr hn hp)
  clear hp hr hn eg
  go_enter Tryz.func171, Tryz.ntmps171
  go_wp2_with (go_at_call 221; refine H.out.mono ?_; rintro e w1 ⟨k, rfl, hk, hb⟩; have HK := Lib.hid hk; clear hk)
  go_ret
  exact ⟨ret_bool HK.out, hb⟩
theorem allC_take (L : List Ci) (p : Ci → Bool) (k : Nat) (hk : k < L.length) (h : (L.take k).all p = true) : p (gci L k) = true → (L.take (k + 1)).all p = true := by
  intro hp
  rw [List.take_succ_eq_append_getElem hk, List.all_append, h]
  simpa [gci, hk] using hp
theorem allC_of (L : List Ci) (p : Ci → Bool) (k : Nat) (hk : k < L.length) : p (gci L k) = false → L.all p = false := fun hp => by
  cases h : L.all p with
  | false => rfl
  | true => rw [List.all_eq_true.1 h _ (gci_mem L k hk)] at hp; cases hp
set_option maxHeartbeats 1000000 in
set_option maxRecDepth 100000 in
theorem rValid39_any (A : Option Addr) (n c : Nat) (L : List Ci) (w : World) (hr : Reads w w.heap.size 6 A n (civs L)) (hn : n ≤ maxLen) :
    Calls Tryz.prog 83 #[.slice A n c] w fun e w' => e = .returned (.bool (L.all vciB)) ∧ Below w.heap.size w w' := by
  have HL := Lib.hid hr.lenC
  have HR := Lib.hid hr
  clear hr
  unfold maxLen at hn
  go_enter Tryz.func83, Tryz.ntmps83
  go_wp2
  go_loopg [3] n (fun gg s3 wr => ∃ kk : Nat, kk ≤ n ∧ n - kk ≤ gg ∧ s3 = .int .i64 kk ∧ Below w.heap.size w wr ∧ (L.take kk).all vciB = true)
  case atStart => exact ⟨0, Nat.zero_le _, by omega, rfl, Below.refl _ w, rfl⟩
  case round =>
    obtain ⟨kk, hkk, hg, rfl, BW, HA⟩ := hrel
    have HA := Lib.hid HA
    by_cases hlt : kk < n
    · obtain ⟨b, off, rfl, hb, hx⟩ := HR.out.elemC hlt
      obtain ⟨y0, y1, y2, y3, y4, y5⟩ := hx.below BW hb
      clear hx
      have hcall := rValid35_all (gci L kk) wr
      have h1 := Lib.hid (allC_take L vciB kk (by rw [HL.out]; exact hlt) HA.out)
      have h2 := Lib.hid (allC_of L vciB kk (by rw [HL.out]; exact hlt))
      unfold civ at hcall
      cases hq : vciB (gci L kk) with
      | true =>
        have h3 := Lib.hid (h1.out hq)
        rw [hq] at hcall
        have hcall := Lib.hid hcall
        clear hq h1 h2
        go_wp2_with fail
        (with_reducible refine (hcall.out).mono ?_)
        rintro e w' ⟨rfl, hb'⟩
        go_wp2
        go_roundg (n - (kk + 1))
        case measure => omega
        case rel => exact ⟨kk + 1, by omega, by omega, by go_num, BW.trans (hb'.mono BW.size), h3.out⟩
      | false =>
        have h3 := Lib.hid (h2.out hq)
        rw [hq] at hcall
        have hcall := Lib.hid hcall
        clear hq h1 h2
        go_wp2_with fail
        (with_reducible refine (hcall.out).mono ?_)
        rintro e w' ⟨rfl, hb'⟩
        go_wp2
        go_ret
        exact ⟨ret_bool h3.out.symm, BW.trans (hb'.mono BW.size)⟩
    · go_wp2
      go_ret
      have h := HA.out
      rw [List.take_of_length_le (by rw [HL.out]; omega)] at h
      exact ⟨ret_bool h.symm, BW⟩
end Go.Proofs.YtifdgdgfmjfbdaaGreat
namespace Go.Proofs.YtifdgdgfmjfbdaaGreat
open Go.RowKit
/-- what angle.result returns -/
def arV (lo hi : Int) : Value := if rchB lo = true ∧ rchB hi = true then .tuple #[.agg #[.int .i64 lo, .int .i64 hi], .int .i64 0] else .tuple #[.agg #[.int .i64 0, .int .i64 0], .int .i64 5]
set_option maxHeartbeats 1000000 in
set_option maxRecDepth 100000 in
theorem angRes_any (lo hi : Int) (w : World) : Calls Tryz.prog 144 #[.int .i64 lo, .int .i64 hi] w fun e w' => e = .returned (arV lo hi) ∧ Below w.heap.size w w' := by
  have K1 := fun W => fitsQ_any lo W
  have K2 := fun W => fitsQ_any hi W
  unfold arV
  cases h1 : rchB lo with
  | false =>
    rw [h1] at K1
    have K1 := Lib.hid K1
    have hif : (if false = true ∧ rchB hi = true then Value.tuple #[.agg #[.int .i64 lo, .int .i64 hi], .int .i64 0] else .tuple #[.agg #[.int .i64 0, .int .i64 0], .int .i64 5]) = .tuple #[.agg #[.int .i64 0, .int .i64 0], .int .i64 5] := by simp
    rw [hif]
    clear h1 hif K2
    go_enter Tryz.func144, Tryz.ntmps144
    go_wp2_with fail
    (with_reducible refine (K1.out _).mono ?_)
    rintro e w1 ⟨rfl, rfl⟩
    go_wp2
    refine bodyPost_ret (v := .tuple #[.agg #[.int .i64 0, .int .i64 0], .int .i64 5]) (by simp [results, Tryz.results144, go_sem, *]; done) rfl ⟨rfl, ?_⟩
    repeat (first | exact Below.refl _ _ | assumption | refine bl_drew ?_ | refine bl_drewN ?_ _ | refine Below.setCell ?_ (by first | assumption | omega | (simp; done) | (simp; omega)) _ | refine Below.alloc ?_ (by first | assumption | omega | (simp; done) | (simp; omega)) _)
  | true =>
    rw [h1] at K1
    have K1 := Lib.hid K1
    cases h2 : rchB hi with
    | false =>
      rw [h2] at K2
      have K2 := Lib.hid K2
      have hif : (if true = true ∧ false = true then Value.tuple #[.agg #[.int .i64 lo, .int .i64 hi], .int .i64 0] else .tuple #[.agg #[.int .i64 0, .int .i64 0], .int .i64 5]) = .tuple #[.agg #[.int .i64 0, .int .i64 0], .int .i64 5] := by simp
      rw [hif]
      clear h1 h2 hif
      go_enter Tryz.func144, Tryz.ntmps144
      go_wp2_with fail
      (with_reducible refine (K1.out _).mono ?_)
      rintro e w1 ⟨rfl, rfl⟩
      go_wp2_with fail
      (with_reducible refine (K2.out _).mono ?_)
      rintro e w1 ⟨rfl, rfl⟩
      go_wp2
      refine bodyPost_ret (v := .tuple #[.agg #[.int .i64 0, .int .i64 0], .int .i64 5]) (by simp [results, Tryz.results144, go_sem, *]; done) rfl ⟨rfl, ?_⟩
      repeat (first | exact Below.refl _ _ | assumption | refine bl_drew ?_ | refine bl_drewN ?_ _ | refine Below.setCell ?_ (by first | assumption | omega | (simp; done) | (simp; omega)) _ | refine Below.alloc ?_ (by first | assumption | omega | (simp; done) | (simp; omega)) _)
    | true =>
      rw [h2] at K2
      have K2 := Lib.hid K2
      have hif : (if true = true ∧ true = true then Value.tuple #[.agg #[.int .i64 lo, .int .i64 hi], .int .i64 0] else .tuple #[.agg #[.int .i64 0, .int .i64 0], .int .i64 5]) = .tuple #[.agg #[.int .i64 lo, .int .i64 hi], .int .i64 0] := by simp
      rw [hif]
      clear h1 h2 hif
      go_enter Tryz.func144, Tryz.ntmps144
      go_wp2_with fail
      (with_reducible refine (K1.out _).mono ?_)
      rintro e w1 ⟨rfl, rfl⟩
      go_wp2_with fail
      (with_reducible refine (K2.out _).mono ?_)
      rintro e w1 ⟨rfl, rfl⟩
      go_wp2
      refine bodyPost_ret (v := .tuple #[.agg #[.int .i64 lo, .int .i64 hi], .int .i64 0]) (by simp [results, Tryz.results144, go_sem, *]; done) rfl ⟨rfl, ?_⟩
      repeat (first | exact Below.refl _ _ | assumption | refine bl_drew ?_ | refine bl_drewN ?_ _ | refine Below.setCell ?_ (by first | assumption | omega | (simp; done) | (simp; omega)) _ | refine Below.alloc ?_ (by first | assumption | omega | (simp; done) | (simp; omega)) _)
theorem arV_form (lo hi : Int) : ∃ x y E : Int, arV lo hi = .tuple #[.agg #[.int .i64 x, .int .i64 y], .int .i64 E] ∧ (E = 0 → x = lo ∧ y = hi ∧ rchB lo = true ∧ rchB hi = true) := by
  unfold arV
  split
  · rename_i h; exact ⟨lo, hi, 0, rfl, fun _ => ⟨rfl, rfl, h.1, h.2⟩⟩
  · exact ⟨0, 0, 5, rfl, fun h => absurd h (by decide)⟩
set_option maxHeartbeats 2000000 in
set_option maxRecDepth 100000 in
/-- angle.Add at any arcs: without an error, it is the sum of two valid arcs -/
theorem angAdd_any (a b c d : Int) (w : World) : Calls Tryz.prog 81 #[.agg #[.int .i64 a, .int .i64 b], .agg #[.int .i64 c, .int .i64 d]] w fun e w' => (∃ x y E : Int, e = .returned (.tuple #[.agg #[.int .i64 x, .int .i64 y], .int .i64 E]) ∧ (E = 0 → x = a + c ∧ y = b + d ∧ avB a b = true ∧ avB c d = true ∧ rchB x = true ∧ rchB y = true)) ∧ Below w.heap.size w w' := by
  have K1 := fun W => aVal_any a b W
  have K2 := fun W => aVal_any c d W
  have D0 := Lib.hid (((D2.new w a b 29).alloc (.cells #[.int .i64 c, .int .i64 d] 29)).alloc (.cells #[.int .i64 0, .int .i64 0] 29))
  have d1 := (D2.new (w.alloc (.cells #[.int .i64 a, .int .i64 b] 29)) c d 29).alloc (.cells #[.int .i64 0, .int .i64 0] 29)
  have d2 := D2.new ((w.alloc (.cells #[.int .i64 a, .int .i64 b] 29)).alloc (.cells #[.int .i64 c, .int .i64 d] 29)) 0 0 29
  simp only [World.size_alloc] at d1 d2
  have D1 := Lib.hid d1
  have DR := Lib.hid d2
  have B0 := Lib.hid (((bl_alloc w (.cells #[.int .i64 a, .int .i64 b] 29)).alloc (by simp) (.cells #[.int .i64 c, .int .i64 d] 29)).alloc (by simp; omega) (.cells #[.int .i64 0, .int .i64 0] 29))
  clear d1 d2
  cases h1 : avB a b with
  | false =>
    rw [h1] at K1
    have K1 := Lib.hid K1
    clear K2 h1
    go_enter Tryz.func81, Tryz.ntmps81
    go_upto_region 1 with (fail)
    generalize ((w.alloc (.cells #[.int .i64 a, .int .i64 b] 29)).alloc (.cells #[.int .i64 c, .int .i64 d] 29)).alloc (.cells #[.int .i64 0, .int .i64 0] 29) = w0 at D0 D1 DR B0 ⊢
    obtain ⟨-, x0, x1, -, -⟩ := D0.out
    go_wp2_with fail
    (with_reducible refine (K1.out _).mono ?_)
    rintro e w1 ⟨rfl, hb1⟩
    have B1 := Lib.hid (B0.out.trans (hb1.mono B0.out.size))
    obtain ⟨zl, z0, z1, zf0, zf1⟩ := DR.out.below hb1 DR.out.lt
    clear hb1 x0 x1
    go_wp2
    refine bodyPost_ret (v := .tuple #[.agg #[.int .i64 0, .int .i64 0], .int .i64 1]) (by simp [results, Tryz.results81, go_sem, *]; done) rfl ⟨⟨0, 0, 1, rfl, fun h => absurd h (by decide)⟩, ?_⟩
    exact (B1.out.setCell (by simp only []; omega) _).setCell (by simp only []; omega) _
  | true =>
    rw [h1] at K1
    have K1 := Lib.hid K1
    cases h2 : avB c d with
    | false =>
      rw [h2] at K2
      have K2 := Lib.hid K2
      clear h1 h2
      go_enter Tryz.func81, Tryz.ntmps81
      go_upto_region 1 with (fail)
      generalize ((w.alloc (.cells #[.int .i64 a, .int .i64 b] 29)).alloc (.cells #[.int .i64 c, .int .i64 d] 29)).alloc (.cells #[.int .i64 0, .int .i64 0] 29) = w0 at D0 D1 DR B0 ⊢
      obtain ⟨-, x0, x1, -, -⟩ := D0.out
      go_wp2_with fail
      (with_reducible refine (K1.out _).mono ?_)
      rintro e w1 ⟨rfl, hb1⟩
      have B1 := Lib.hid (B0.out.trans (hb1.mono B0.out.size))
      have DR1 := Lib.hid (DR.out.below hb1 DR.out.lt)
      obtain ⟨-, y0, y1, -, -⟩ := D1.out.below hb1 D1.out.lt
      clear hb1 x0 x1
      go_wp2_with fail
      (with_reducible refine (K2.out _).mono ?_)
      rintro e w2 ⟨rfl, hb2⟩
      have B2 := Lib.hid (B1.out.trans (hb2.mono B1.out.size))
      obtain ⟨zl, z0, z1, zf0, zf1⟩ := DR1.out.below hb2 DR1.out.lt
      clear hb2 y0 y1
      go_wp2
      refine bodyPost_ret (v := .tuple #[.agg #[.int .i64 0, .int .i64 0], .int .i64 1]) (by simp [results, Tryz.results81, go_sem, *]; done) rfl ⟨⟨0, 0, 1, rfl, fun h => absurd h (by decide)⟩, ?_⟩
      exact (B2.out.setCell (by simp only []; omega) _).setCell (by simp only []; omega) _
    | true =>
      rw [h2] at K2
      have K2 := Lib.hid K2
      have q1 := avB_true.1 h1
      have q2 := avB_true.1 h2
      have s1 : wrap64 (a + c) = a + c := IntWalk.wrap64_in _ (by omega)
      have s2 : wrap64 (b + d) = b + d := IntWalk.wrap64_in _ (by omega)
      obtain ⟨x, y, E, hE, hE0⟩ := arV_form (a + c) (b + d)
      have K3 := fun W => angRes_any (a + c) (b + d) W
      rw [hE] at K3
      have K3 := Lib.hid K3
      have HF : Hid (E = 0 → x = a + c ∧ y = b + d ∧ avB a b = true ∧ avB c d = true ∧ rchB x = true ∧ rchB y = true) := Lib.hid fun h => by
        obtain ⟨e1, e2, e3, e4⟩ := hE0 h
        subst e1 e2
        exact ⟨rfl, rfl, h1, h2, e3, e4⟩
      clear h1 h2 q1 q2 hE hE0
      go_enter Tryz.func81, Tryz.ntmps81
      go_upto_region 1 with (fail)
      generalize ((w.alloc (.cells #[.int .i64 a, .int .i64 b] 29)).alloc (.cells #[.int .i64 c, .int .i64 d] 29)).alloc (.cells #[.int .i64 0, .int .i64 0] 29) = w0 at D0 D1 DR B0 ⊢
      obtain ⟨-, x0, x1, -, -⟩ := D0.out
      go_wp2_with fail
      (with_reducible refine (K1.out _).mono ?_)
      rintro e w1 ⟨rfl, hb1⟩
      have B1 := Lib.hid (B0.out.trans (hb1.mono B0.out.size))
      have DR1 := Lib.hid (DR.out.below hb1 DR.out.lt)
      have DA1 := Lib.hid (D0.out.below hb1 D0.out.lt)
      have DB1 := Lib.hid (D1.out.below hb1 D1.out.lt)
      obtain ⟨-, y0, y1, -, -⟩ := DB1.out
      clear hb1 x0 x1
      go_wp2_with fail
      (with_reducible refine (K2.out _).mono ?_)
      rintro e w2 ⟨rfl, hb2⟩
      have B2 := Lib.hid (B1.out.trans (hb2.mono B1.out.size))
      have DR2 := Lib.hid (DR1.out.below hb2 DR1.out.lt)
      clear y0 y1
      obtain ⟨-, y0, y1, -, -⟩ := DB1.out.below hb2 DB1.out.lt
      obtain ⟨-, x0, x1, -, -⟩ := DA1.out.below hb2 DA1.out.lt
      clear hb2
      go_wp2_with fail
      (with_reducible refine (K3.out _).mono ?_)
      rintro e w3 ⟨rfl, hb3⟩
      have B3 := Lib.hid (B2.out.trans (hb3.mono B2.out.size))
      obtain ⟨zl, z0, z1, zf0, zf1⟩ := DR2.out.below hb3 DR2.out.lt
      clear hb3 x0 x1 y0 y1
      go_wp2
      refine bodyPost_ret (v := .tuple #[.agg #[.int .i64 x, .int .i64 y], .int .i64 E]) (by simp [results, Tryz.results81, go_sem, *]; done) rfl ⟨⟨x, y, E, rfl, fun h => ⟨(HF.out h).1, (HF.out h).2.1, trivial, trivial, (HF.out h).2.2.2.2⟩⟩, ?_⟩
      exact (B3.out.setCell (by simp only []; omega) _).setCell (by simp only []; omega) _
set_option maxHeartbeats 1000000 in
set_option maxRecDepth 100000 in
theorem clat_all (lo hi : Int) (w : World) : Calls Tryz.prog 199 #[.agg #[.int .i64 lo, .int .i64 hi]] w fun e w' => e = .returned (.bool (latB (lo, hi))) ∧ Below w.heap.size w w' := by
  have e : latB (lo, hi) = (avB lo hi && (decide (-5400000 ≤ lo) && decide (hi ≤ 5400000))) := by
    rw [Bool.eq_iff_iff]
    unfold latB avB
    simp only [Bool.and_eq_true, decide_eq_true_eq]
    omega
  rw [e]
  clear e
  have KV := fun W => aValid_any lo hi W
  have T1 := Lib.hid (D2.new w lo hi 29)
  have B0 := Lib.hid (bl_alloc w (.cells #[.int .i64 lo, .int .i64 hi] 29))
  generalize avB lo hi = v at KV ⊢
  have KV := Lib.hid KV
  cases v <;> cases d1 : decide (-5400000 ≤ lo) <;> cases d2 : decide (hi ≤ 5400000)
  all_goals
    go_enter Tryz.func199, Tryz.ntmps199
    go_wp2_with fail
    (with_reducible refine (KV.out _).mono ?_)
    rintro e w1 ⟨rfl, hb1⟩
    have B1 := Lib.hid (B0.out.trans (hb1.mono B0.out.size))
    obtain ⟨at1, a0, a1, af0, af1⟩ := T1.out.below hb1 T1.out.lt
    clear hb1
    go_wp2
    go_ret
    exact ⟨ret_bool (by simp), B1.out⟩
set_option maxHeartbeats 2000000 in
set_option maxRecDepth 100000 in
theorem cValid_no (a b c : Int × Int) (w : World) (ha : latB a = true) (hb : latB b = false) :
    Calls Tryz.prog 136 #[.agg #[.int .i64 a.1, .int .i64 a.2, .int .i64 b.1, .int .i64 b.2, .int .i64 c.1, .int .i64 c.2]] w fun e w' => e = .returned (.bool false) ∧ Below w.heap.size w w' := by
  have K1 := fun W => clat_all a.1 a.2 W
  have K2 := fun W => clat_all b.1 b.2 W
  rw [show latB (a.1, a.2) = true from ha] at K1
  rw [show latB (b.1, b.2) = false from hb] at K2
  obtain ⟨a0, a1⟩ := a
  obtain ⟨b0, b1⟩ := b
  obtain ⟨c0, c1⟩ := c
  simp only [] at K1 K2 ⊢
  clear ha hb
  have K1 := Lib.hid K1
  have K2 := Lib.hid K2
  have T1 := Lib.hid (C6.new w a0 a1 b0 b1 c0 c1 92)
  have B0 := Lib.hid (bl_alloc w (.cells #[.int .i64 a0, .int .i64 a1, .int .i64 b0, .int .i64 b1, .int .i64 c0, .int .i64 c1] 92))
  go_enter Tryz.func136, Tryz.ntmps136
  go_wp2_with fail
  (with_reducible refine (K1.out _).mono ?_)
  rintro e w1 ⟨rfl, hb1⟩
  have B1 := Lib.hid (B0.out.trans (hb1.mono B0.out.size))
  obtain ⟨tl, x0, x1, x2, x3, x4, x5⟩ := T1.out.below hb1 T1.out.lt
  clear hb1 T1 B0
  go_wp2_with fail
  (with_reducible refine (K2.out _).mono ?_)
  rintro e w2 ⟨rfl, hb2⟩
  have B2 := Lib.hid (B1.out.trans (hb2.mono B1.out.size))
  clear hb2
  go_wp2
  go_ret
  exact ⟨rfl, B2.out⟩
set_option maxHeartbeats 2000000 in
set_option maxRecDepth 100000 in
theorem Altitude_no (a b c : Int × Int) (w : World) (ha : latB a = true) (hb : latB b = false) :
    Calls Tryz.prog 71 #[.agg #[.int .i64 a.1, .int .i64 a.2, .int .i64 b.1, .int .i64 b.2, .int .i64 c.1, .int .i64 c.2]] w fun e w' => e = .returned (.tuple #[.agg #[.int .i64 0, .int .i64 0], .int .i64 1]) ∧ Below w.heap.size w w' := by
  have KV := Lib.hid (fun W => cValid_no a b c W ha hb)
  obtain ⟨a0, a1⟩ := a
  obtain ⟨b0, b1⟩ := b
  obtain ⟨c0, c1⟩ := c
  simp only [] at KV ⊢
  clear ha hb
  have TR : Hid (D2 ((w.alloc (.cells #[.int .i64 a0, .int .i64 a1, .int .i64 b0, .int .i64 b1, .int .i64 c0, .int .i64 c1] 92)).alloc (.cells #[.int .i64 0, .int .i64 0] 29)) (w.heap.size + 1) 0 0) := Lib.hid (by
    have := D2.new (w.alloc (.cells #[.int .i64 a0, .int .i64 a1, .int .i64 b0, .int .i64 b1, .int .i64 c0, .int .i64 c1] 92)) 0 0 29
    rwa [World.size_alloc] at this)
  have B0 := Lib.hid ((bl_alloc w (.cells #[.int .i64 a0, .int .i64 a1, .int .i64 b0, .int .i64 b1, .int .i64 c0, .int .i64 c1] 92)).alloc (by simp) (.cells #[.int .i64 0, .int .i64 0] 29))
  go_enter Tryz.func71, Tryz.ntmps71
  go_wp2_with fail
  (with_reducible refine (KV.out _).mono ?_)
  rintro e w1 ⟨rfl, hb1⟩
  have B1 := Lib.hid (B0.out.trans (hb1.mono B0.out.size))
  obtain ⟨rt, ra, rb, rf0, rf1⟩ := TR.out.below hb1 TR.out.lt
  clear hb1
  go_wp2
  refine bodyPost_ret (v := .tuple #[.agg #[.int .i64 0, .int .i64 0], .int .i64 1]) (by simp [results, Tryz.results71, go_sem, *]; done) rfl ⟨rfl, ?_⟩
  exact (B1.out.setCell (by simp only []; omega) _).setCell (by simp only []; omega) _
/-! ### the longitudes of an arc -/
def lgLo (lo hi : Int) : Int := if 21600000 ≤ hi - lo then -10800000 else sgT lo
def lgHi (lo hi : Int) : Int := if 21600000 ≤ hi - lo then 10800000 else sgT lo + (hi - lo)
theorem sgT_mod (n : Int) : -10800000 ≤ sgT n ∧ sgT n < 10800000 ∧ ∃ k, sgT n = n + 21600000 * k := by
  unfold sgT
  split
  · exact ⟨by omega, by omega, -(n / 21600000) - 1, by omega⟩
  · exact ⟨by omega, by omega, -(n / 21600000), by omega⟩
set_option maxHeartbeats 2000000 in
set_option maxRecDepth 100000 in
theorem clong_any (lo hi : Int) (w : World) (h : avB lo hi = true) : Calls Tryz.prog 94 #[.agg #[.int .i64 lo, .int .i64 hi]] w fun e w' => e = .returned (.agg #[.int .i64 (lgLo lo hi), .int .i64 (lgHi lo hi)]) ∧ Below w.heap.size w w' := by
  have q := avB_true.1 h
  have m := sgT_mod lo
  have KS := fun W => Signed_any lo W
  have s1 : wrap64 (hi - lo) = hi - lo := IntWalk.wrap64_in _ (by omega)
  have D0 := Lib.hid ((D2.new w lo hi 29).alloc (.cells #[.int .i64 0, .int .i64 0] 29))
  have dr := D2.new (w.alloc (.cells #[.int .i64 lo, .int .i64 hi] 29)) 0 0 29
  rw [World.size_alloc] at dr
  have DR := Lib.hid dr
  have B0 := Lib.hid ((bl_alloc w (.cells #[.int .i64 lo, .int .i64 hi] 29)).alloc (by simp) (.cells #[.int .i64 0, .int .i64 0] 29))
  clear dr h
  unfold lgLo lgHi
  by_cases c : 21600000 ≤ hi - lo
  · rw [if_pos c, if_pos c]
    have d0 : decide (21600000 ≤ hi - lo) = true := decide_eq_true c
    clear KS m q c
    go_enter Tryz.func94, Tryz.ntmps94
    go_upto_region 1 with (fail)
    generalize (w.alloc (.cells #[.int .i64 lo, .int .i64 hi] 29)).alloc (.cells #[.int .i64 0, .int .i64 0] 29) = w0 at D0 DR B0 ⊢
    obtain ⟨-, x0, x1, -, -⟩ := D0.out
    obtain ⟨-, z0, z1, zf0, zf1⟩ := DR.out
    go_wp2
    refine bodyPost_ret (v := .agg #[.int .i64 (-10800000), .int .i64 10800000]) (by simp [results, Tryz.results94, go_sem, *]; done) rfl ⟨rfl, ?_⟩
    exact (B0.out.setCell (by simp only []; omega) _).setCell (by simp only []; omega) _
  · rw [if_neg c, if_neg c]
    have d0 : decide (21600000 ≤ hi - lo) = false := decide_eq_false c
    obtain ⟨s, hs⟩ : ∃ s, sgT lo = s := ⟨_, rfl⟩
    rw [hs] at KS m ⊢
    have s2 : wrap64 (s + hi) = s + hi := IntWalk.wrap64_in _ (by omega)
    have s3 : wrap64 (s + hi - lo) = s + (hi - lo) := by rw [IntWalk.wrap64_in _ (by omega)]; omega
    have KS := Lib.hid KS
    clear m q c hs
    go_enter Tryz.func94, Tryz.ntmps94
    go_upto_region 1 with (fail)
    generalize (w.alloc (.cells #[.int .i64 lo, .int .i64 hi] 29)).alloc (.cells #[.int .i64 0, .int .i64 0] 29) = w0 at D0 DR B0 ⊢
    obtain ⟨-, x0, x1, -, -⟩ := D0.out
    go_wp2_with fail
    (with_reducible refine (KS.out _).mono ?_)
    rintro e w1 ⟨rfl, hb1⟩
    have B1 := Lib.hid (B0.out.trans (hb1.mono B0.out.size))
    obtain ⟨-, z0, z1, zf0, zf1⟩ := DR.out.below hb1 DR.out.lt
    clear x0 x1
    obtain ⟨-, x0, x1, -, -⟩ := D0.out.below hb1 D0.out.lt
    clear hb1
    go_wp2
    refine bodyPost_ret (v := .agg #[.int .i64 s, .int .i64 (s + (hi - lo))]) (by simp [results, Tryz.results94, go_sem, *]; done) rfl ⟨rfl, ?_⟩
    exact (B1.out.setCell (by simp only []; omega) _).setCell (by simp only []; omega) _
end Go.Proofs.YtifdgdgfmjfbdaaGreat
