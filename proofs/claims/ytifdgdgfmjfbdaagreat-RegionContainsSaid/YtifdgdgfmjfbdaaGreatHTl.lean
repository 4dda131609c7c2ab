/- The walk of the law's sharp: the circle of a body for an observer meets the observer. -/
import Derived.Test.YtifdgdgfmjfbdaaGreatHOb
import Derived.Test.YtifdgdgfmjfbdaaGreatHTf
import Derived.Test.YtifdgdgfmjfbdaaGreatHPa
import Derived.Test.YtifdgdgfmjfbdaaGreatHJw
set_option linter.unusedVariables false
set_option linter.unusedSimpArgs false
namespace Go.Proofs.YtifdgdgfmjfbdaaGreat.Trig
/-- an interval lies in another one -/
def Wi (x y : Int × Int) : Prop := y.1 ≤ x.1 ∧ x.2 ≤ y.2
theorem Wi.refl (x : Int × Int) : Wi x x := ⟨Int.le_refl _, Int.le_refl _⟩
theorem btw {x a y : Int} (c : Int) (h1 : x ≤ a) (h2 : a ≤ y) : min (x * c) (y * c) ≤ a * c ∧ a * c ≤ max (x * c) (y * c) := by
  rcases Int.le_total 0 c with hc | hc
  · have e1 := Int.mul_le_mul_of_nonneg_right h1 hc
    have e2 := Int.mul_le_mul_of_nonneg_right h2 hc
    omega
  · have e1 := Int.mul_le_mul_of_nonpos_right h1 hc
    have e2 := Int.mul_le_mul_of_nonpos_right h2 hc
    omega
theorem corner {x y : Int × Int} {a b : Int} (h1 : x.1 ≤ a) (h2 : a ≤ x.2) (h3 : y.1 ≤ b) (h4 : b ≤ y.2) :
    min (x.1 * y.1) (min (x.1 * y.2) (min (x.2 * y.1) (x.2 * y.2))) ≤ a * b ∧ a * b ≤ max (x.1 * y.1) (max (x.1 * y.2) (max (x.2 * y.1) (x.2 * y.2))) := by
  have e := btw b h1 h2
  have f := btw x.1 h3 h4
  have g := btw x.2 h3 h4
  rw [Int.mul_comm y.1 x.1, Int.mul_comm y.2 x.1, Int.mul_comm b x.1] at f
  rw [Int.mul_comm y.1 x.2, Int.mul_comm y.2 x.2, Int.mul_comm b x.2] at g
  omega
theorem mulP_mono {x x' y y' : Int × Int} (hx : Wi x x') (hy : Wi y y') (lx : x.1 ≤ x.2) (ly : y.1 ≤ y.2) : Wi (mulP x y) (mulP x' y') := by
  obtain ⟨x1, x2⟩ := hx
  obtain ⟨y1, y2⟩ := hy
  have c1 := corner (x := x') (y := y') (a := x.1) (b := y.1) x1 (by omega) y1 (by omega)
  have c2 := corner (x := x') (y := y') (a := x.1) (b := y.2) x1 (by omega) (by omega) y2
  have c3 := corner (x := x') (y := y') (a := x.2) (b := y.1) (by omega) x2 y1 (by omega)
  have c4 := corner (x := x') (y := y') (a := x.2) (b := y.2) (by omega) x2 (by omega) y2
  unfold Wi mulP
  simp only []
  generalize x.1 * y.1 = p1 at *
  generalize x.1 * y.2 = p2 at *
  generalize x.2 * y.1 = p3 at *
  generalize x.2 * y.2 = p4 at *
  generalize min (x'.1 * y'.1) (min (x'.1 * y'.2) (min (x'.2 * y'.1) (x'.2 * y'.2))) = lo at *
  generalize max (x'.1 * y'.1) (max (x'.1 * y'.2) (max (x'.2 * y'.1) (x'.2 * y'.2))) = hi at *
  constructor
  · exact Int.ediv_le_ediv (by omega) (by omega)
  · have : -hi / 1073741824 ≤ -(max p1 (max p2 (max p3 p4))) / 1073741824 := Int.ediv_le_ediv (by omega) (by omega)
    omega
theorem snP_mono {a b : Int × Int} (h : Wi a b) (hl : a.1 ≤ a.2) : Wi (snP a) (snP b) := en_sub h.1 hl h.2
theorem csP_mono {a b : Int × Int} (h : Wi a b) (hl : a.1 ≤ a.2) : Wi (csP a) (csP b) := by
  have h1 := h.1
  have h2 := h.2
  exact en_sub (by omega) (by omega) (by omega)
theorem sinT_mono {lat lat' dec lha lha' : Int × Int} (h1 : Wi lat lat') (l1 : lat.1 ≤ lat.2) (h2 : Wi lha lha') (l2 : lha.1 ≤ lha.2) : Wi (sinT lat dec lha) (sinT lat' dec lha') := by
  have a := mulP_mono (snP_mono h1 l1) (Wi.refl (snP dec)) (snP_small lat).le (snP_small dec).le
  have b := mulP_mono (csP_mono h1 l1) (Wi.refl (csP dec)) (csP_small lat).le (csP_small dec).le
  have c := mulP_mono b (csP_mono h2 l2) (mulP_small (csP_small lat) (csP_small dec)).le (csP_small lha).le
  obtain ⟨a1, a2⟩ := a
  obtain ⟨c1, c2⟩ := c
  unfold Wi sinT addP
  simp only []
  omega
theorem en_turn (lo hi k : Int) : enLo (lo + 21600000 * k) (hi + 21600000 * k) = enLo lo hi ∧ enHi (lo + 21600000 * k) (hi + 21600000 * k) = enHi lo hi := by
  have e : ∀ x, metB (lo + 21600000 * k) (hi + 21600000 * k) x = metB lo hi x := fun x => by
    unfold metB
    rw [decide_eq_decide]
    omega
  unfold enLo enHi
  rw [e, e, lo_turn, lo_turn, hi_turn, hi_turn]
  exact ⟨rfl, rfl⟩
theorem csP_turn (a : Int × Int) (k : Int) : csP (a.1 + 21600000 * k, a.2 + 21600000 * k) = csP a := by
  have h := en_turn (a.1 + 5400000) (a.2 + 5400000) k
  unfold csP
  simp only []
  rw [show a.1 + 21600000 * k + 5400000 = a.1 + 5400000 + 21600000 * k by omega, show a.2 + 21600000 * k + 5400000 = a.2 + 5400000 + 21600000 * k by omega, h.1, h.2]
theorem sinT_turn (lat dec lha : Int × Int) (k : Int) : sinT lat dec (lha.1 + 21600000 * k, lha.2 + 21600000 * k) = sinT lat dec lha := by unfold sinT; rw [csP_turn]
theorem cs_pole : csP (5400000, 5400000) = (0, 0) ∧ csP (-5400000, -5400000) = (0, 0) := by decide +kernel
theorem mulP_zero (y : Int × Int) : mulP (0, 0) y = (0, 0) := by unfold mulP; simp
theorem sinT_pole {a : Int} (h : a = 5400000 ∨ a = -5400000) (dec lha lha' : Int × Int) : sinT (a, a) dec lha = sinT (a, a) dec lha' := by
  have e : csP (a, a) = (0, 0) := by
    rcases h with rfl | rfl
    · exact cs_pole.1
    · exact cs_pole.2
  unfold sinT
  rw [e, mulP_zero, mulP_zero, mulP_zero]
theorem csP_all (lo : Int) : csP (lo, lo + 21600000) = (-1073741824, 1073741824) := by
  have e : ∀ x, metB (lo + 5400000) (lo + 21600000 + 5400000) x = true := fun x => by unfold metB; rw [decide_eq_true_eq]; omega
  unfold csP enLo enHi
  simp only []
  rw [if_pos (e _), if_pos (e _)]
theorem wi_all (x : Int × Int) (h : Small x) : Wi x (-1073741824, 1073741824) := ⟨h.lo, h.hi⟩
theorem asn_ex {v : Int} (h : -1073741824 ≤ v) : ∃ r, IsAsn v r := by
  have h0 : hiB (-5400000) ≤ v := by
    have e := hiB_neg (n := 5400000) (by omega) (by omega)
    rw [loB_poles.2] at e
    omega
  have key : ∀ N : Nat, N ≤ 10800000 → ∃ k : Nat, k ≤ N ∧ hiB (-5400000 + k) ≤ v ∧ (k < N → v < hiB (-5400000 + k + 1)) := by
    intro N
    induction N with
    | zero => intro _; exact ⟨0, Nat.le_refl _, by simpa using h0, fun h => absurd h (by omega)⟩
    | succ N ih =>
      intro hN
      by_cases c : hiB (-5400000 + ((N + 1 : Nat) : Int)) ≤ v
      · exact ⟨N + 1, Nat.le_refl _, c, fun h => absurd h (by omega)⟩
      · obtain ⟨k, k1, k2, k3⟩ := ih (by omega)
        refine ⟨k, by omega, k2, fun hk => ?_⟩
        by_cases e : k < N
        · exact k3 e
        · have : k = N := by omega
          subst this
          have e2 : (-5400000 : Int) + ((k + 1 : Nat) : Int) = -5400000 + (k : Int) + 1 := by omega
          rw [e2] at c
          omega
  obtain ⟨k, k1, k2, k3⟩ := key 10800000 (Nat.le_refl _)
  exact ⟨-5400000 + k, by omega, by omega, k2, fun h => k3 (by omega)⟩
theorem asnV_is {v : Int} (h : -1073741824 ≤ v) : IsAsn v (asnV v) := by
  obtain ⟨r, hr⟩ := asn_ex h
  rw [← asn_is hr]
  exact hr
/-- the circle of an altitude that is worked: it meets the sine of the altitude -/
theorem worked_meets {s : Int × Int} {lo hi : Int} (hs : s.1 ≤ s.2) (h1 : s.1 ≤ 1073741824) (h2 : -1073741824 ≤ s.2) (b0 : -5400000 ≤ lo) (b1 : lo ≤ hi) (b2 : hi ≤ 5400000) (h3 : lo ≤ asnV (max s.1 (-1073741824))) (h4 : -asnV (-(min s.2 1073741824)) ≤ hi) :
    (csP (5400000 - hi, 5400000 - lo)).1 ≤ s.2 ∧ s.1 ≤ (csP (5400000 - hi, 5400000 - lo)).2 := by
  have a := asnV_is (v := max s.1 (-1073741824)) (by omega)
  have b := asnV_is (v := -(min s.2 1073741824)) (by omega)
  generalize asnV (max s.1 (-1073741824)) = r at *
  generalize asnV (-(min s.2 1073741824)) = t at *
  have ar := a.hi
  have br := b.lo
  have br2 := b.hi
  have m1 := en_has (lo := 5400000 - hi + 5400000) (n := 10800000 - min r hi) (hi := 5400000 - lo + 5400000) (by omega) (by omega)
  have m2 := en_has (lo := 5400000 - hi + 5400000) (n := 10800000 - max (-t) lo) (hi := 5400000 - lo + 5400000) (by omega) (by omega)
  rw [lo_mirror, hi_mirror] at m1 m2
  have e1 := (hi_le r).2.2.2.2
  have e2 := hiB_neg (n := t) b.lo b.hi
  have e3 := (hi_le t).2.2.2.2
  have e4 := loB_mono (a := min r hi) (b := r) (by omega) (by omega) a.hi
  have e5 := hiB_mono (a := -t) (b := max (-t) lo) (by omega) (by omega) (by omega)
  have a1 := a.le
  have b3 := b.le
  show enLo (5400000 - hi + 5400000) (5400000 - lo + 5400000) ≤ s.2 ∧ s.1 ≤ enHi (5400000 - hi + 5400000) (5400000 - lo + 5400000)
  omega
end Go.Proofs.YtifdgdgfmjfbdaaGreat.Trig
namespace Go.Proofs.YtifdgdgfmjfbdaaGreat
open Canon
theorem sdV_wi {s s' r : Int × Int} (h : sdV s r = 0) (hw : Trig.Wi s s') : sdV s' r = 0 := by
  obtain ⟨h1, h2⟩ := hw
  unfold sdV at *
  split at h
  · cases h
  · split at h
    · cases h
    · rw [if_neg (by omega), if_neg (by omega)]
/-- the sine of the altitude at a point, seen from the centre of a circle -/
def sinPt (k : Ci) (a b : Int) : Int × Int := Trig.sinT (a, a) (k.1.1, k.1.2.1) (b - k.1.2.2.2, b - k.1.2.2.1)
theorem sin_pt {k : Ci} (hk : VCi k) {x : Cl} (hx : Vl x) {a b : Int} (hp : ptB x a b = true) : Trig.Wi (sinPt k a b) (sinC k (bxI x)) := by
  have hkb := vp_bd (q0 := k.1.1) (q1 := k.1.2.1) (q2 := k.1.2.2.1) (q3 := k.1.2.2.2) hk.p
  have hb := bx_facts hx
  have hp' : (decide ((bxI x).1 ≤ a ∧ a ≤ (bxI x).2.1) && (decide (a = 5400000) || decide (a = -5400000) || lonIn (bxI x).2.2.1 (bxI x).2.2.2 b)) = true := hp
  unfold sinPt sinC
  generalize bxI x = q at *
  rw [Bool.and_eq_true, decide_eq_true_eq, Bool.or_eq_true, Bool.or_eq_true, decide_eq_true_eq, decide_eq_true_eq] at hp'
  obtain ⟨h1, h2⟩ := hp'
  have hw : Trig.Wi (a, a) (q.1, q.2.1) := ⟨h1.1, h1.2⟩
  by_cases hpole : a = 5400000 ∨ a = -5400000
  · rw [Trig.sinT_pole hpole _ _ (q.2.2.1 - k.1.2.2.2, q.2.2.1 - k.1.2.2.1)]
    exact Trig.sinT_mono hw (Int.le_refl _) ⟨Int.le_refl _, by simp only []; omega⟩ (by simp only []; omega)
  · have hl : lonIn q.2.2.1 q.2.2.2 b = true := h2.resolve_left hpole
    unfold lonIn at hl
    rw [decide_eq_true_eq] at hl
    obtain ⟨j, hj⟩ : ∃ j, (b - q.2.2.1) / 21600000 = j := ⟨_, rfl⟩
    have e := Trig.sinT_turn (a, a) (k.1.1, k.1.2.1) (b - k.1.2.2.2, b - k.1.2.2.1) (-j)
    rw [← e]
    exact Trig.sinT_mono hw (Int.le_refl _) ⟨by simp only []; omega, by simp only []; omega⟩ (by simp only []; omega)
theorem ag_pt {k : Ci} (hk : VCi k) {x : Cl} (hx : Vl x) {a b : Int} (hp : ptB x a b = true) (h : sdV (sinPt k a b) (Trig.csP k.2) = 0) : agC k x = true := by
  unfold agC sideC
  rw [sdV_wi h (sin_pt hk hx hp)]
  rfl
theorem pt_down {c : Cl} (hc : Vl c) {q : Nat} (h : covL [c] q) {a b : Int} (hf : fin a b q = true) : ptB c a b = true := by
  have hn := fin_in hc h
  have hb := bx_facts hc
  have hf' : (decide ((bxI (cellB (0, q))).1 ≤ a ∧ a ≤ (bxI (cellB (0, q))).2.1) && (decide (a = 5400000) || decide (a = -5400000) || lonIn (bxI (cellB (0, q))).2.2.1 (bxI (cellB (0, q))).2.2.2 b)) = true := hf
  show (decide ((bxI c).1 ≤ a ∧ a ≤ (bxI c).2.1) && (decide (a = 5400000) || decide (a = -5400000) || lonIn (bxI c).2.2.1 (bxI c).2.2.2 b)) = true
  unfold nst at hn
  generalize bxI (cellB (0, q)) = u at *
  generalize bxI c = v at *
  rw [Bool.and_eq_true, decide_eq_true_eq, Bool.or_eq_true] at hf' ⊢
  refine ⟨by omega, hf'.2.imp id fun hl => ?_⟩
  unfold lonIn at *
  rw [decide_eq_true_eq] at *
  omega
theorem gop_all {ag su : Cl → Bool} {lev : Int} {q : Nat} : ∀ (f j : Nat), (∀ i, j ≤ i → i ≤ j + f → ag (cellAt q i) = true) → gop ag su lev q f j
  | 0, j, h => h j (Nat.le_refl _) (by omega)
  | f + 1, j, h => ⟨h j (Nat.le_refl _) (by omega), .inr (gop_all f (j + 1) fun i h1 h2 => h i (by omega) (by omega))⟩
theorem at_vl {q j : Nat} (hq : q < 2 * 4 ^ 16) (hj : j ≤ 16) : Vl (cellAt q j) ∧ covL [cellAt q j] q := by
  have hp : 0 < 4 ^ (16 - j) := Nat.pow_pos (by omega)
  have e : (4 : Nat) ^ 16 = 4 ^ j * 4 ^ (16 - j) := by rw [← Nat.pow_add, show j + (16 - j) = 16 by omega]
  have hb : blkOf (cellAt q j) = (16 - j, q / 4 ^ (16 - j)) := blkOf_cellB _ (by simp only []; omega)
  refine ⟨cellB_vl _ (by simp only []; omega) ?_, ?_⟩
  · simp only []
    rw [Nat.div_lt_iff_lt_mul hp, show 16 - (16 - j) = j by omega, Nat.mul_assoc, ← e]
    exact hq
  · rw [cov_div, hb]
/-- a point of the start that agrees with all circles is in what the search finds -/
theorem prA_pt {ag su : Cl → Bool} {lev : Int} (h16 : lev ≤ 16) {L : List Cl} (hL : AllV L) {a b : Int} (hv : vptB a b = true) (hc : conB L a b = true) (hag : ∀ x, Vl x → ptB x a b = true → ag x = true) : conB (canonC (covL (prA ag su lev L))) a b = true := by
  have hX := (prA_v (ag := ag) (su := su) h16 hL).1
  rw [con_iff hL a b hv] at hc
  obtain ⟨q, hq, hf⟩ := hc
  rw [con_iff (can_v _ hX) a b hv]
  refine ⟨q, ?_, hf⟩
  rw [cov_blk] at hq
  have hq2 := cov_v hL hq
  rw [cov_blk, can_cov hX, prA_go h16 hL]
  obtain ⟨r, hr, hrq⟩ := hq
  refine ⟨r, hr, (cov_one r q).2 hrq, gop_all _ _ fun i h1 h2 => ?_⟩
  have hfu := fuC_eq (hL r hr)
  have h0 := (hL r hr).l0
  have hi : i ≤ 16 := by omega
  obtain ⟨v1, v2⟩ := at_vl hq2 hi
  exact hag _ v1 (pt_down v1 v2 hf)
theorem prA_ptP {K : List Ci} (hK : ∀ k ∈ K, VCi k) {lev : Int} (h16 : lev ≤ 16) {L : List Cl} (hL : AllV L) {a b : Int} (hv : vptB a b = true) (hc : conB L a b = true) (hs : ∀ k ∈ K, sdV (sinPt k a b) (Trig.csP k.2) = 0) : conB (canonC (covL (prA (agP K) (suP K) lev L))) a b = true :=
  prA_pt h16 hL hv hc fun x hx hp => List.all_eq_true.2 fun k hk => ag_pt (hK k hk) hx hp (hs k hk)
end Go.Proofs.YtifdgdgfmjfbdaaGreat
namespace Go.Proofs.YtifdgdgfmjfbdaaGreat
open Go.RowKit
set_option maxHeartbeats 2000000 in
set_option maxRecDepth 100000 in
theorem circOf_no (h0 h1 g0 g1 d0 d1 s0 s1 p0 p1 : Int) (w : World) (hh : avB h0 h1 = false) :
    Calls Tryz.prog 82 #[.agg #[.int .i64 h0, .int .i64 h1], .agg #[.int .i64 g0, .int .i64 g1, .int .i64 d0, .int .i64 d1, .int .i64 s0, .int .i64 s1, .int .i64 p0, .int .i64 p1]] w fun e w' => e = .returned (.tuple #[.agg #[.int .i64 0, .int .i64 0, .int .i64 0, .int .i64 0, .int .i64 0, .int .i64 0], .int .i64 1]) ∧ Below w.heap.size w w' := by
  have K1 := fun W => aVal_any h0 h1 W
  rw [hh] at K1
  have K1 := Lib.hid K1
  have hh0 := ((Blk.new w 29 #[.int .i64 h0, .int .i64 h1]).alloc (.cells #[.int .i64 g0, .int .i64 g1, .int .i64 d0, .int .i64 d1, .int .i64 s0, .int .i64 s1, .int .i64 p0, .int .i64 p1] 80)).alloc (.cells #[.int .i64 0, .int .i64 0, .int .i64 0, .int .i64 0, .int .i64 0, .int .i64 0] 39)
  have rr0 := Blk.new ((w.alloc (.cells #[.int .i64 h0, .int .i64 h1] 29)).alloc (.cells #[.int .i64 g0, .int .i64 g1, .int .i64 d0, .int .i64 d1, .int .i64 s0, .int .i64 s1, .int .i64 p0, .int .i64 p1] 80)) 39 #[.int .i64 0, .int .i64 0, .int .i64 0, .int .i64 0, .int .i64 0, .int .i64 0]
  simp only [World.size_alloc] at rr0
  have bb := ((bl_alloc w (.cells #[.int .i64 h0, .int .i64 h1] 29)).alloc (by simp) (.cells #[.int .i64 g0, .int .i64 g1, .int .i64 d0, .int .i64 d1, .int .i64 s0, .int .i64 s1, .int .i64 p0, .int .i64 p1] 80)).alloc (by simp; omega) (.cells #[.int .i64 0, .int .i64 0, .int .i64 0, .int .i64 0, .int .i64 0, .int .i64 0] 39)
  clear hh
  go_enter Tryz.func82, Tryz.ntmps82
  go_upto_region 1 with (fail)
  generalize ((w.alloc (.cells #[.int .i64 h0, .int .i64 h1] 29)).alloc (.cells #[.int .i64 g0, .int .i64 g1, .int .i64 d0, .int .i64 d1, .int .i64 s0, .int .i64 s1, .int .i64 p0, .int .i64 p1] 80)).alloc (.cells #[.int .i64 0, .int .i64 0, .int .i64 0, .int .i64 0, .int .i64 0, .int .i64 0] 39) = wa at hh0 rr0 bb ⊢
  have RA := Lib.hid rr0
  have BA := Lib.hid bb
  have x0 : wa.cell? ⟨w.heap.size, 0, none⟩ = some (.int .i64 h0) := hh0.cell 0
  have x1 : wa.cell? ⟨w.heap.size, 1, none⟩ = some (.int .i64 h1) := hh0.cell 1
  clear hh0 rr0 bb
  go_wp2_with fail
  (with_reducible refine (K1.out _).mono ?_)
  rintro e w1 ⟨rfl, hb1⟩
  have B1 := Lib.hid (BA.out.trans (hb1.mono BA.out.size))
  have R1 := RA.out.below hb1 RA.out.lt
  have rl := R1.lt
  have z0 : w1.cell? ⟨w.heap.size + 2, 0, none⟩ = some (.int .i64 0) := R1.cell 0
  have z1 : w1.cell? ⟨w.heap.size + 2, 1, none⟩ = some (.int .i64 0) := R1.cell 1
  have z2 : w1.cell? ⟨w.heap.size + 2, 2, none⟩ = some (.int .i64 0) := R1.cell 2
  have z3 : w1.cell? ⟨w.heap.size + 2, 3, none⟩ = some (.int .i64 0) := R1.cell 3
  have z4 : w1.cell? ⟨w.heap.size + 2, 4, none⟩ = some (.int .i64 0) := R1.cell 4
  have z5 : w1.cell? ⟨w.heap.size + 2, 5, none⟩ = some (.int .i64 0) := R1.cell 5
  have fz : ∀ j, w1.frozen? ⟨w.heap.size + 2, j, none⟩ = false := fun j => R1.frozen j
  clear hb1 x0 x1 R1
  go_wp2
  refine bodyPost_ret (v := .tuple #[.agg #[.int .i64 0, .int .i64 0, .int .i64 0, .int .i64 0, .int .i64 0, .int .i64 0], .int .i64 1]) (by simp [results, Tryz.results82, go_sem, *]; done) rfl ⟨rfl, ?_⟩
  exact (((((B1.out.setCell (by simp only []; omega) _).setCell (by simp only []; omega) _).setCell (by simp only []; omega) _).setCell (by simp only []; omega) _).setCell (by simp only []; omega) _).setCell (by simp only []; omega) _
/-! ### the circle, in plain words -/
theorem lg_vl {lo hi : Int} (h : lo ≤ hi) : VL (lgLo lo hi, lgHi lo hi) := by
  have m := sgT_mod lo
  unfold VL lgLo lgHi
  simp only []
  by_cases c : 21600000 ≤ hi - lo
  · rw [if_pos c, if_pos c]; exact .inl ⟨rfl, rfl⟩
  · rw [if_neg c, if_neg c]; exact .inr ⟨m.1, m.2.1, by omega, by omega⟩
theorem lg_sin (lat dec : Int × Int) (hl : lat.1 ≤ lat.2) (b g0 g1 : Int) (h : g0 ≤ g1) : Trig.Wi (Trig.sinT lat dec (g0 + b, g1 + b)) (Trig.sinT lat dec (b - lgHi (-g1) (-g0), b - lgLo (-g1) (-g0))) := by
  obtain ⟨m1, m2, k, hk⟩ := sgT_mod (-g1)
  unfold lgLo lgHi
  by_cases c : 21600000 ≤ -g0 - -g1
  · rw [if_pos c, if_pos c]
    have hall : Trig.csP (b - 10800000, b - -10800000) = (-1073741824, 1073741824) := by
      have := Trig.csP_all (b - 10800000)
      rw [show b - 10800000 + 21600000 = b - -10800000 by omega] at this
      exact this
    have a := Trig.mulP_mono (Trig.Wi.refl (Trig.mulP (Trig.csP lat) (Trig.csP dec))) (Trig.wi_all _ (Trig.csP_small (g0 + b, g1 + b))) (Trig.mulP_small (Trig.csP_small lat) (Trig.csP_small dec)).le (Trig.csP_small (g0 + b, g1 + b)).le
    unfold Trig.sinT
    rw [hall]
    obtain ⟨a1, a2⟩ := a
    unfold Trig.Wi Trig.addP
    simp only []
    omega
  · rw [if_neg c, if_neg c]
    have e := Trig.sinT_turn lat dec (g0 + b, g1 + b) (-k)
    simp only [] at e
    rw [← e]
    refine Trig.sinT_mono (Trig.Wi.refl lat) hl ⟨?_, ?_⟩ ?_ <;> (simp only []; omega)
/-- the circle of position that the law makes -/
noncomputable def shC (a b g0 g1 d0 d1 wide : Int) : Ci := ((d0, d1, lgLo (-g1) (-g0), lgHi (-g1) (-g0)), 5400000 - min 5400000 (-Trig.asnV (-(min (Trig.sinT (a, a) (d0, d1) (g0 + b, g1 + b)).2 1073741824)) + wide), 5400000 - max (-5400000) (Trig.asnV (max (Trig.sinT (a, a) (d0, d1) (g0 + b, g1 + b)).1 (-1073741824)) - wide))
theorem shC_ok {a b g0 g1 d0 d1 wide : Int} (hg : g0 ≤ g1) (hd : latB (d0, d1) = true) (hw : 0 ≤ wide) (hle : max (-5400000) (Trig.asnV (max (Trig.sinT (a, a) (d0, d1) (g0 + b, g1 + b)).1 (-1073741824)) - wide) ≤ min 5400000 (-Trig.asnV (-(min (Trig.sinT (a, a) (d0, d1) (g0 + b, g1 + b)).2 1073741824)) + wide)) :
    VCi (shC a b g0 g1 d0 d1 wide) ∧ sdV (sinPt (shC a b g0 g1 d0 d1 wide) a b) (Trig.csP (shC a b g0 g1 d0 d1 wide).2) = 0 := by
  have hv : VP (d0, d1, lgLo (-g1) (-g0), lgHi (-g1) (-g0)) := by
    unfold latB at hd
    rw [Bool.and_eq_true, Bool.and_eq_true, decide_eq_true_eq, decide_eq_true_eq, decide_eq_true_eq] at hd
    exact ⟨hd.2.1, hd.1, hd.2.2, lg_vl (by omega)⟩
  have hs := Trig.sinT_fv (a, a) (d0, d1) (g0 + b, g1 + b)
  have hm := Trig.sinT_meets (a, a) (d0, d1) (g0 + b, g1 + b)
  have hwi := lg_sin (a, a) (d0, d1) (Int.le_refl _) b g0 g1 hg
  obtain ⟨s, hse⟩ : ∃ s, Trig.sinT (a, a) (d0, d1) (g0 + b, g1 + b) = s := ⟨_, rfl⟩
  have e2 : ∀ k : Ci, k.1 = (d0, d1, lgLo (-g1) (-g0), lgHi (-g1) (-g0)) → sinPt k a b = Trig.sinT (a, a) (d0, d1) (b - lgHi (-g1) (-g0), b - lgLo (-g1) (-g0)) := fun k hk => by unfold sinPt; rw [hk]
  have r1 := Trig.asn_bd (max s.1 (-1073741824))
  have r2 := Trig.asn_bd (-(min s.2 1073741824))
  unfold shC
  rw [hse] at hle hs hm hwi ⊢
  obtain ⟨lo, hlo⟩ : ∃ x, max (-5400000) (Trig.asnV (max s.1 (-1073741824)) - wide) = x := ⟨_, rfl⟩
  obtain ⟨hi, hhi⟩ : ∃ x, min 5400000 (-Trig.asnV (-(min s.2 1073741824)) + wide) = x := ⟨_, rfl⟩
  rw [hlo, hhi] at hle ⊢
  refine ⟨⟨hv, by simp only []; omega, by simp only []; omega, by simp only []; omega⟩, ?_⟩
  rw [e2 _ rfl]
  refine sdV_wi ?_ hwi
  have hw2 := Trig.worked_meets (s := s) (lo := lo) (hi := hi) hs.2.1 hm.1 hm.2 (by omega) hle (by omega) (by omega) (by omega)
  show sdV s (Trig.csP (5400000 - hi, 5400000 - lo)) = 0
  unfold sdV
  rw [if_neg (by omega), if_neg (by omega)]
end Go.Proofs.YtifdgdgfmjfbdaaGreat
