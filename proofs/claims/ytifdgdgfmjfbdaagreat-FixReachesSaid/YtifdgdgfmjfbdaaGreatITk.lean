/- Plain: around a place: a level finer has no fewer cells, and each point that is no pole is covered. No program in sight. -/
import Derived.RangeFuncBox
import Derived.Deep.DeepCutAuto
import Derived.Test.YtifdgdgfmjfbdaaGreatIVi
import Derived.Test.YtifdgdgfmjfbdaaGreatITf
import Derived.Test.YtifdgdgfmjfbdaaGreatIAl
import Derived.Test.YtifdgdgfmjfbdaaGreatIJc
import Derived.Test.YtifdgdgfmjfbdaaGreatIHk
import Derived.Test.YtifdgdgfmjfbdaaGreatIGi
import Derived.Test.YtifdgdgfmjfbdaaGreatIBase
import Derived.Test.YtifdgdgfmjfbdaaGreatIJa
set_option linter.unusedVariables false
set_option linter.unusedSimpArgs false
namespace Go.Proofs.YtifdgdgfmjfbdaaGreat.Trig
theorem sth_turn (n k : Int) : sth (n + 21600000 * k) = sth n := by unfold sth; rw [show (n + 21600000 * k) % 21600000 = n % 21600000 by omega]
theorem qrt_turn (n k : Int) : qrt (n + 21600000 * k) = qrt n := by unfold qrt; rw [show (n + 21600000 * k) % 21600000 = n % 21600000 by omega]
theorem lo_turn (n k : Int) : loB (n + 21600000 * k) = loB n := by unfold loB; rw [sth_turn, qrt_turn]
theorem hi_turn (n k : Int) : hiB (n + 21600000 * k) = hiB n := by unfold hiB; rw [sth_turn, qrt_turn]
theorem sth_mirror (n : Int) : sth (10800000 - n) = sth n := by
  unfold sth
  rw [decide_eq_decide]
  omega
theorem qrt_mirror (n : Int) : qrt (10800000 - n) = qrt n := by
  unfold qrt
  omega
theorem lo_mirror (n : Int) : loB (10800000 - n) = loB n := by unfold loB; rw [sth_mirror, qrt_mirror]
theorem hi_mirror (n : Int) : hiB (10800000 - n) = hiB n := by unfold hiB; rw [sth_mirror, qrt_mirror]
/-- the enclosure of the sine over an arc has the sine at each of its angles -/
theorem en_has {lo n hi : Int} (h1 : lo ≤ n) (h2 : n ≤ hi) : enLo lo hi ≤ loB n ∧ hiB n ≤ enHi lo hi := by
  have hb := hi_le n
  constructor
  · unfold enLo
    split
    · exact hb.1
    · rename_i hm
      unfold metB at hm
      rw [decide_eq_true_eq] at hm
      obtain ⟨k, hk⟩ : ∃ k, (lo + 5400000) / 21600000 = k := ⟨_, rfl⟩
      have e : ∀ x, loB x = loB (x - 21600000 * k) := fun x => by
        have := lo_turn (x - 21600000 * k) k
        rw [show x - 21600000 * k + 21600000 * k = x by omega] at this
        exact this
      have a1 : -5400000 < lo - 21600000 * k := by omega
      have a2 : hi - 21600000 * k < 16200000 := by omega
      rw [e n, e lo, e hi]
      by_cases c : n - 21600000 * k ≤ 5400000
      · have := loB_mono (a := lo - 21600000 * k) (b := n - 21600000 * k) (by omega) (by omega) c
        omega
      · have := loB_mono (a := 10800000 - (hi - 21600000 * k)) (b := 10800000 - (n - 21600000 * k)) (by omega) (by omega) (by omega)
        rw [lo_mirror, lo_mirror] at this
        omega
  · unfold enHi
    split
    · exact hb.2.2.2.1
    · rename_i hm
      unfold metB at hm
      rw [decide_eq_true_eq] at hm
      obtain ⟨k, hk⟩ : ∃ k, (lo + 16200000) / 21600000 = k := ⟨_, rfl⟩
      have e : ∀ x, hiB x = hiB (x - 21600000 * k) := fun x => by
        have := hi_turn (x - 21600000 * k) k
        rw [show x - 21600000 * k + 21600000 * k = x by omega] at this
        exact this
      have e2 : ∀ x, hiB x = hiB (-10800000 - x) := fun x => by
        have h3 := hi_mirror x
        have h4 := hi_turn (-10800000 - x) 1
        rw [show -10800000 - x + 21600000 * 1 = 10800000 - x by omega] at h4
        rw [← h3, h4]
      have a1 : -16200000 < lo - 21600000 * k := by omega
      have a2 : hi - 21600000 * k < 5400000 := by omega
      rw [e n, e lo, e hi]
      by_cases c : -5400000 ≤ n - 21600000 * k
      · have := hiB_mono (a := n - 21600000 * k) (b := hi - 21600000 * k) c (by omega) (by omega)
        omega
      · have := hiB_mono (a := -10800000 - (n - 21600000 * k)) (b := -10800000 - (lo - 21600000 * k)) (by omega) (by omega) (by omega)
        rw [← e2, ← e2] at this
        omega
/-- less of an arc: a narrower enclosure -/
theorem en_sub {lo lo' hi' hi : Int} (h1 : lo ≤ lo') (h2 : lo' ≤ hi') (h3 : hi' ≤ hi) : enLo lo hi ≤ enLo lo' hi' ∧ enHi lo' hi' ≤ enHi lo hi := by
  constructor
  · by_cases hm : metB lo' hi' 16200000 = true
    · have hm2 : metB lo hi 16200000 = true := by unfold metB at *; rw [decide_eq_true_eq] at *; omega
      unfold enLo
      rw [if_pos hm, if_pos hm2]
      exact Int.le_refl _
    · have a := (en_has (lo := lo) (n := lo') (hi := hi) h1 (by omega)).1
      have b := (en_has (lo := lo) (n := hi') (hi := hi) (by omega) h3).1
      conv => rhs; unfold enLo
      rw [if_neg hm]
      omega
  · by_cases hm : metB lo' hi' 5400000 = true
    · have hm2 : metB lo hi 5400000 = true := by unfold metB at *; rw [decide_eq_true_eq] at *; omega
      unfold enHi
      rw [if_pos hm, if_pos hm2]
      exact Int.le_refl _
    · have a := (en_has (lo := lo) (n := lo') (hi := hi) h1 (by omega)).2
      have b := (en_has (lo := lo) (n := hi') (hi := hi) (by omega) h3).2
      conv => lhs; unfold enHi
      rw [if_neg hm]
      omega
end Go.Proofs.YtifdgdgfmjfbdaaGreat.Trig
namespace Go.Proofs.YtifdgdgfmjfbdaaGreat.Trig
/-- an interval lies in another one -/
def Wi (x y : Int × Int) : Prop := y.1 ≤ x.1 ∧ x.2 ≤ y.2
theorem Wi.refl (x : Int × Int) : Wi x x := ⟨Int.le_refl _, Int.le_refl _⟩
theorem btw {x a y : Int} (c : Int) (h1 : x ≤ a) (h2 : a ≤ y) : min (x * c) (y * c) ≤ a * c ∧ a * c ≤ max (x * c) (y * c) := by
  rcases Int.le_total 0 c with hc | hc
  · have e1 := Int.mul_le_mul_of_nonneg_right h1 hc
    have e2 := Int.mul_le_mul_of_nonneg_right h2 hc
    omega
  · have e1 := Int.mul_le_mul_of_nonpos_right h1 hc
    have e2 := Int.mul_le_mul_of_nonpos_right h2 hc
    omega
theorem corner {x y : Int × Int} {a b : Int} (h1 : x.1 ≤ a) (h2 : a ≤ x.2) (h3 : y.1 ≤ b) (h4 : b ≤ y.2) :
    min (x.1 * y.1) (min (x.1 * y.2) (min (x.2 * y.1) (x.2 * y.2))) ≤ a * b ∧ a * b ≤ max (x.1 * y.1) (max (x.1 * y.2) (max (x.2 * y.1) (x.2 * y.2))) := by
  have e := btw b h1 h2
  have f := btw x.1 h3 h4
  have g := btw x.2 h3 h4
  rw [Int.mul_comm y.1 x.1, Int.mul_comm y.2 x.1, Int.mul_comm b x.1] at f
  rw [Int.mul_comm y.1 x.2, Int.mul_comm y.2 x.2, Int.mul_comm b x.2] at g
  omega
theorem mulP_mono {x x' y y' : Int × Int} (hx : Wi x x') (hy : Wi y y') (lx : x.1 ≤ x.2) (ly : y.1 ≤ y.2) : Wi (mulP x y) (mulP x' y') := by
  obtain ⟨x1, x2⟩ := hx
  obtain ⟨y1, y2⟩ := hy
  have c1 := corner (x := x') (y := y') (a := x.1) (b := y.1) x1 (by omega) y1 (by omega)
  have c2 := corner (x := x') (y := y') (a := x.1) (b := y.2) x1 (by omega) (by omega) y2
  have c3 := corner (x := x') (y := y') (a := x.2) (b := y.1) (by omega) x2 y1 (by omega)
  have c4 := corner (x := x') (y := y') (a := x.2) (b := y.2) (by omega) x2 (by omega) y2
  unfold Wi mulP
  simp only []
  generalize x.1 * y.1 = p1 at *
  generalize x.1 * y.2 = p2 at *
  generalize x.2 * y.1 = p3 at *
  generalize x.2 * y.2 = p4 at *
  generalize min (x'.1 * y'.1) (min (x'.1 * y'.2) (min (x'.2 * y'.1) (x'.2 * y'.2))) = lo at *
  generalize max (x'.1 * y'.1) (max (x'.1 * y'.2) (max (x'.2 * y'.1) (x'.2 * y'.2))) = hi at *
  constructor
  · exact Int.ediv_le_ediv (by omega) (by omega)
  · have : -hi / 1073741824 ≤ -(max p1 (max p2 (max p3 p4))) / 1073741824 := Int.ediv_le_ediv (by omega) (by omega)
    omega
theorem snP_mono {a b : Int × Int} (h : Wi a b) (hl : a.1 ≤ a.2) : Wi (snP a) (snP b) := en_sub h.1 hl h.2
theorem csP_mono {a b : Int × Int} (h : Wi a b) (hl : a.1 ≤ a.2) : Wi (csP a) (csP b) := by
  have h1 := h.1
  have h2 := h.2
  exact en_sub (by omega) (by omega) (by omega)
theorem sinT_mono {lat lat' dec lha lha' : Int × Int} (h1 : Wi lat lat') (l1 : lat.1 ≤ lat.2) (h2 : Wi lha lha') (l2 : lha.1 ≤ lha.2) : Wi (sinT lat dec lha) (sinT lat' dec lha') := by
  have a := mulP_mono (snP_mono h1 l1) (Wi.refl (snP dec)) (snP_small lat).le (snP_small dec).le
  have b := mulP_mono (csP_mono h1 l1) (Wi.refl (csP dec)) (csP_small lat).le (csP_small dec).le
  have c := mulP_mono b (csP_mono h2 l2) (mulP_small (csP_small lat) (csP_small dec)).le (csP_small lha).le
  obtain ⟨a1, a2⟩ := a
  obtain ⟨c1, c2⟩ := c
  unfold Wi sinT addP
  simp only []
  omega
theorem en_turn (lo hi k : Int) : enLo (lo + 21600000 * k) (hi + 21600000 * k) = enLo lo hi ∧ enHi (lo + 21600000 * k) (hi + 21600000 * k) = enHi lo hi := by
  have e : ∀ x, metB (lo + 21600000 * k) (hi + 21600000 * k) x = metB lo hi x := fun x => by
    unfold metB
    rw [decide_eq_decide]
    omega
  unfold enLo enHi
  rw [e, e, lo_turn, lo_turn, hi_turn, hi_turn]
  exact ⟨rfl, rfl⟩
theorem csP_turn (a : Int × Int) (k : Int) : csP (a.1 + 21600000 * k, a.2 + 21600000 * k) = csP a := by
  have h := en_turn (a.1 + 5400000) (a.2 + 5400000) k
  unfold csP
  simp only []
  rw [show a.1 + 21600000 * k + 5400000 = a.1 + 5400000 + 21600000 * k by omega, show a.2 + 21600000 * k + 5400000 = a.2 + 5400000 + 21600000 * k by omega, h.1, h.2]
theorem sinT_turn (lat dec lha : Int × Int) (k : Int) : sinT lat dec (lha.1 + 21600000 * k, lha.2 + 21600000 * k) = sinT lat dec lha := by unfold sinT; rw [csP_turn]
theorem cs_pole : csP (5400000, 5400000) = (0, 0) ∧ csP (-5400000, -5400000) = (0, 0) := by decide +kernel
theorem mulP_zero (y : Int × Int) : mulP (0, 0) y = (0, 0) := by unfold mulP; simp
theorem sinT_pole {a : Int} (h : a = 5400000 ∨ a = -5400000) (dec lha lha' : Int × Int) : sinT (a, a) dec lha = sinT (a, a) dec lha' := by
  have e : csP (a, a) = (0, 0) := by
    rcases h with rfl | rfl
    · exact cs_pole.1
    · exact cs_pole.2
  unfold sinT
  rw [e, mulP_zero, mulP_zero, mulP_zero]
theorem asn_ex {v : Int} (h : -1073741824 ≤ v) : ∃ r, IsAsn v r := by
  have h0 : hiB (-5400000) ≤ v := by
    have e := hiB_neg (n := 5400000) (by omega) (by omega)
    rw [loB_poles.2] at e
    omega
  have key : ∀ N : Nat, N ≤ 10800000 → ∃ k : Nat, k ≤ N ∧ hiB (-5400000 + k) ≤ v ∧ (k < N → v < hiB (-5400000 + k + 1)) := by
    intro N
    induction N with
    | zero => intro _; exact ⟨0, Nat.le_refl _, by simpa using h0, fun h => absurd h (by omega)⟩
    | succ N ih =>
      intro hN
      by_cases c : hiB (-5400000 + ((N + 1 : Nat) : Int)) ≤ v
      · exact ⟨N + 1, Nat.le_refl _, c, fun h => absurd h (by omega)⟩
      · obtain ⟨k, k1, k2, k3⟩ := ih (by omega)
        refine ⟨k, by omega, k2, fun hk => ?_⟩
        by_cases e : k < N
        · exact k3 e
        · have : k = N := by omega
          subst this
          have e2 : (-5400000 : Int) + ((k + 1 : Nat) : Int) = -5400000 + (k : Int) + 1 := by omega
          rw [e2] at c
          omega
  obtain ⟨k, k1, k2, k3⟩ := key 10800000 (Nat.le_refl _)
  exact ⟨-5400000 + k, by omega, by omega, k2, fun h => k3 (by omega)⟩
theorem asnV_is {v : Int} (h : -1073741824 ≤ v) : IsAsn v (asnV v) := by
  obtain ⟨r, hr⟩ := asn_ex h
  rw [← asn_is hr]
  exact hr
end Go.Proofs.YtifdgdgfmjfbdaaGreat.Trig
namespace Go.Proofs.YtifdgdgfmjfbdaaGreat
open Canon
theorem cov_one (x : Cl) (q : Nat) : covL [x] q ↔ (spF x ≤ q ∧ q < spT x) := by simp [covL]
/-- the children cover what their parent covers -/
theorem cov_kids {p : Cl} (hp : Vl p) (h : p.1 < 16) (q : Nat) : covL (kidsC p) q ↔ covL [p] q := by
  show (covL (kidsC p) q ↔ covL [p] q)
  unfold covL
  rw [← covB_map, ← covB_map]
  rw [kids_blk hp h]
  obtain ⟨k, hb⟩ : ∃ k, (blkOf p).1 = k + 1 := ⟨(blkOf p).1 - 1, by
    have : (blkOf p).1 = 16 - p.1.toNat := rfl
    have := hp.l0
    omega⟩
  rw [covS, covS]
  simp only [List.map_cons, List.map_nil, List.mem_singleton, exists_eq_left]
  rw [hb]
  simp only [Nat.add_sub_cancel]
  generalize (blkOf p).2 = n
  have e : 4 ^ (k + 1) = 4 * 4 ^ k := by rw [Nat.pow_succ]; omega
  rw [e]
  generalize hu : 4 ^ k = u
  simp only [kidsB, List.mem_cons, List.not_mem_nil, or_false]
  have m0 : 4 * n * u = 4 * (n * u) := by rw [Nat.mul_assoc]
  have m1 : n * (4 * u) = 4 * (n * u) := by rw [← Nat.mul_assoc, Nat.mul_comm n 4, Nat.mul_assoc]
  have m2 : (n + 1) * (4 * u) = 4 * (n * u) + 4 * u := by rw [Nat.add_mul, m1]; omega
  have a1 : (4 * n + 1) * u = 4 * (n * u) + u := by rw [Nat.add_mul, m0]; omega
  have a2 : (4 * n + 2) * u = 4 * (n * u) + 2 * u := by rw [Nat.add_mul, m0]
  have a3 : (4 * n + 3) * u = 4 * (n * u) + 3 * u := by rw [Nat.add_mul, m0]
  have a4 : (4 * n + 3 + 1) * u = 4 * (n * u) + 4 * u := by rw [show 4 * n + 3 + 1 = 4 * n + 4 by omega, Nat.add_mul, m0]
  have b1 : (4 * n + 1 + 1) * u = 4 * (n * u) + 2 * u := a2
  have b2 : (4 * n + 2 + 1) * u = 4 * (n * u) + 3 * u := a3
  constructor
  · rintro ⟨b, rfl | rfl | rfl | rfl, h1, h2⟩ <;> simp only [hu] at h1 h2 <;> (constructor <;> omega)
  · rintro ⟨h1, h2⟩
    by_cases c1 : q < (4 * n + 1) * u
    · exact ⟨(k, 4 * n), .inl rfl, by simp only [hu]; omega, by simp only [hu]; omega⟩
    · by_cases c2 : q < (4 * n + 2) * u
      · exact ⟨(k, 4 * n + 1), .inr (.inl rfl), by simp only [hu]; omega, by simp only [hu]; rw [show 4 * n + 1 + 1 = 4 * n + 2 by omega]; omega⟩
      · by_cases c3 : q < (4 * n + 3) * u
        · exact ⟨(k, 4 * n + 2), .inr (.inr (.inl rfl)), by simp only [hu]; omega, by simp only [hu]; rw [show 4 * n + 2 + 1 = 4 * n + 3 by omega]; omega⟩
        · exact ⟨(k, 4 * n + 3), .inr (.inr (.inr rfl)), by simp only [hu]; omega, by simp only [hu]; omega⟩

theorem can_v (X : List Cl) (hX : AllV X) : AllV (canonC (covL X)) := by
  have e : canonC (covL X) = regB (covB (X.map blkOf)) := canonC_congr fun q => (covB_map X q).symm
  rw [e]
  exact reg_v _
end Go.Proofs.YtifdgdgfmjfbdaaGreat
namespace Go.Proofs.YtifdgdgfmjfbdaaGreat
open Canon
theorem bx_facts {x : Cl} (hx : Vl x) : -5400000 ≤ (bxI x).1 ∧ (bxI x).1 ≤ (bxI x).2.1 ∧ (bxI x).2.1 ≤ 5400000 ∧ -10800000 ≤ (bxI x).2.2.1 ∧ (bxI x).2.2.1 ≤ (bxI x).2.2.2 ∧ (bxI x).2.2.2 ≤ 10800000 ∧ (bxI x).2.2.2 - (bxI x).2.2.1 < 21600000 ∧ (bxI x).2.2.1 < 10800000 := by
  have h := box_nums hx
  have h2 : edg (x.2.2 + 1) x.1 ≤ 21600000 := by
    have hv := (vl_iff x).2 hx
    obtain ⟨v0, v1, v2, v3, v4, v5⟩ := vldB_true.1 hv
    exact (edg_bd v1 (by omega) (by omega)).2
  unfold bxI
  simp only []
  omega
end Go.Proofs.YtifdgdgfmjfbdaaGreat
namespace Go.Proofs.YtifdgdgfmjfbdaaGreat
open Go.RowKit
theorem putQ_self (a : Act) (i : Nat) : a.put (some i) (a.tmps.getD i undef) = a := by
  cases a with
  | mk t d =>
    have : t.setIfInBounds i (t.getD i undef) = t := by
      apply Array.ext
      · simp
      · intro j h1 h2
        rw [Array.getElem_setIfInBounds]
        split
        · rename_i e
          subst e
          simp [Array.getD, h2]
        · rfl
    show Act.mk (t.setIfInBounds i (t.getD i undef)) d = _
    rw [this]
theorem wp_region_invB {P : Program} {id : Nat} {ops : Array Oper} {Q : Exit → Act → World → Prop} {a : Act} {w : World} (hm : P.follows .mixedOrders = true) (Inv : (Nat → Bool) → Act → World → Prop)
    (hwf : ∀ (i : Nat) (o : Oper), ops[i]? = some o → ∀ e ∈ o.after, Region.binds .any e = true → e.on < i)
    (h0 : Inv (fun _ => false) a w.drew)
    (hstep : ∀ (L : Nat → Bool) (i : Nat) (o : Oper) (a : Act) (w : World), ops[i]? = some o → L i = false → (∀ e ∈ o.after, Region.binds .any e = true → L e.on = true) → Inv L a w → wpList P ops (Exit.then (fun a' w' => Inv (fun j => if j = i then true else L j) a' w') Q) [o] a w)
    (hend : ∀ (L : Nat → Bool) (a : Act) (w : World), (∀ i, i < ops.size → L i = true) → Inv L a w → Q .normal a w) : (Code.region id ops true).wp P Q a w := by
  have key : ∀ (fuel : Nat) (listed : Array Bool) (L : Nat → Bool) (a : Act) (w : World), listed.size = ops.size → (∀ i, i < ops.size → listed.getD i true = L i ∧ listed.getD i false = L i) → PQ.unm (fun j => if L j = true then 1 else 0) ops.size ≤ fuel → Inv L a w → wpAny P .any ops Q fuel listed a w := by
    intro fuel
    have all : ∀ (listed : Array Bool) (L : Nat → Bool), (∀ i, i < ops.size → listed.getD i true = L i ∧ listed.getD i false = L i) → Region.ready .any ops listed = [] → ∀ n i, i < n → i < ops.size → L i = true := by
      intro listed L hL hr n
      induction n with
      | zero => intro i h; omega
      | succ n ih =>
        intro i hi his
        by_cases e : i < n
        · exact ih i e his
        · obtain rfl : i = n := by omega
          cases hl : L i with
          | true => rfl
          | false =>
            exfalso
            have : i ∈ Region.ready .any ops listed := by
              rw [mem_ready]
              refine ⟨by rw [(hL i his).1, hl], ops[i], by rw [Array.getElem?_eq_getElem his], fun e he hbd => ?_⟩
              have := hwf i _ (by rw [Array.getElem?_eq_getElem his]) e he hbd
              rw [(hL e.on (by omega)).2]
              exact ih e.on this (by omega)
            rw [hr] at this
            cases this
    induction fuel with
    | zero =>
      intro listed L a w hs hL hu hI
      have hall : ∀ i, i < ops.size → L i = true := by
        intro i hi
        cases hl : L i with
        | true => rfl
        | false =>
          exfalso
          have := PQ.unm_upd (pt := fun j => if L j = true then 1 else 0) (v := 1) hi (by simp [hl]) (by omega)
          omega
      refine ⟨?_, hend L a w hall hI⟩
      cases hr : Region.ready .any ops listed with
      | nil => rfl
      | cons i rs =>
        have hi : i ∈ Region.ready .any ops listed := by rw [hr]; exact List.mem_cons_self ..
        obtain ⟨h1, o, ho, -⟩ := mem_ready.1 hi
        have his : i < ops.size := by
          rcases Nat.lt_or_ge i ops.size with g | g
          · exact g
          · rw [Array.getElem?_eq_none g] at ho; cases ho
        rw [(hL i his).1, hall i his] at h1
        cases h1
    | succ fuel ih =>
      intro listed L a w hs hL hu hI
      refine ⟨fun hr => hend L a w (fun i hi => all listed L hL hr ops.size i hi hi) hI, fun i hi => ?_⟩
      obtain ⟨h1, o, ho, haf⟩ := mem_ready.1 hi
      have his : i < ops.size := by
        rcases Nat.lt_or_ge i ops.size with g | g
        · exact g
        · rw [Array.getElem?_eq_none g] at ho; cases ho
      rw [(hL i his).1] at h1
      have hst := hstep L i o a w ho h1 (fun e he hb => by
        have := haf e he hb
        rwa [(hL e.on (by have := hwf i o ho e he hb; omega)).2] at this) hI
      refine wpOp_mono (fun a' w' h => ?_) (wpOp_of_list ho hst)
      refine ih _ _ a' w' (by simpa using hs) (fun j hj => ?_) ?_ h
      · by_cases e : j = i
        · subst e
          simp [hs, his]
        · have := hL j hj
          have e' : ¬ i = j := fun h => e h.symm
          simp only [if_neg e]
          simp only [Array.getD_eq_getD_getElem?, Array.getElem?_setIfInBounds, if_neg e'] at this ⊢
          exact this
      · have := PQ.unm_upd (pt := fun j => if L j = true then 1 else 0) (v := 1) his (by simp [h1]) (by omega)
        have e2 : (fun j => if (if j = i then true else L j) = true then 1 else 0) = PQ.upd (fun j => if L j = true then 1 else 0) i 1 := by
          funext j
          unfold PQ.upd
          by_cases e : j = i
          · simp [e]
          · simp [e]
        rw [e2]
        omega
  refine wp_region_any hm (key ops.size _ (fun _ => false) a _ (by simp) (fun i hi => by simp [hi]) ?_ h0)
  exact Nat.le_trans (by unfold PQ.unm; exact List.length_filter_le _ _) (by simp)
theorem wp_region_inv3 {P : Program} {id : Nat} {ops : Array Oper} {Q : Exit → Act → World → Prop} {a : Act} {w : World} (hm : P.follows .mixedOrders = true) (Inv : Act → (Nat → Bool) → Act → World → Prop)
    (hwf : ∀ (i : Nat) (o : Oper), ops[i]? = some o → ∀ e ∈ o.after, Region.binds .any e = true → e.on < i)
    (h0 : Inv a (fun _ => false) a w.drew)
    (hstep : ∀ (L : Nat → Bool) (i : Nat) (o : Oper) (a1 : Act) (w : World), ops[i]? = some o → L i = false → (∀ e ∈ o.after, Region.binds .any e = true → L e.on = true) → Inv a L a1 w → wpList P ops (Exit.then (fun a' w' => Inv a (mkd L i) a' w') Q) [o] a1 w)
    (hend : ∀ (L : Nat → Bool) (a1 : Act) (w : World), (∀ i, i < ops.size → L i = true) → Inv a L a1 w → Q .normal a1 w) : (Code.region id ops true).wp P Q a w :=
  wp_region_invB hm (Inv a) hwf h0 hstep hend
/-- every operation waits for earlier ones alone, as far as it must, as a Bool -/
def waitsBind (ops : Array Oper) : Bool := (List.range ops.size).all fun i => (ops[i]?.map fun o => o.after.all fun e => !(Region.binds .any e) || decide (e.on < i)).getD true
theorem waits_bind {ops : Array Oper} (h : waitsBind ops = true) : ∀ (i : Nat) (o : Oper), ops[i]? = some o → ∀ e ∈ o.after, Region.binds .any e = true → e.on < i := by
  intro i o ho e he hb
  have his : i < ops.size := by
    rcases Nat.lt_or_ge i ops.size with g | g
    · exact g
    · rw [Array.getElem?_eq_none g] at ho; cases ho
  have h1 := (List.all_eq_true.1 h) i (List.mem_range.2 his)
  rw [ho] at h1
  simp only [Option.map_some, Option.getD_some] at h1
  have := Array.all_eq_true'.1 h1 e he
  rw [hb] at this
  simpa using this
end Go.Proofs.YtifdgdgfmjfbdaaGreat
namespace Go.Proofs.YtifdgdgfmjfbdaaGreat
open Go.RowKit
/-- one cell that is known -/
structure K3 (W : World) (g : Nat) (x : Cl) : Prop where
  lt : g < W.heap.size
  c0 : W.cell? ⟨g, 0, none⟩ = some (.int .i64 x.1)
  c1 : W.cell? ⟨g, 1, none⟩ = some (.int .i64 x.2.1)
  c2 : W.cell? ⟨g, 2, none⟩ = some (.int .i64 x.2.2)
end Go.Proofs.YtifdgdgfmjfbdaaGreat
namespace Go.Proofs.YtifdgdgfmjfbdaaGreat
open Canon
/-! ### the search of a region -/
/-- the part of a cell: `ag` says whether a cell agrees with all circles, `su` whether it surely does -/
def prt (ag su : Cl → Bool) (lev : Int) : Nat → Cl → List Cl
  | 0, c => if ag c = true then [c] else []
  | f + 1, c => if ag c = true then (if lev ≤ c.1 ∨ su c = true then [c] else (kidsC c).flatMap (prt ag su lev f)) else []
/-- how many cells are looked at -/
def prn (ag su : Cl → Bool) (lev : Int) : Nat → Cl → Nat
  | 0, _ => 1
  | f + 1, c => if ag c = true then (if lev ≤ c.1 ∨ su c = true then 1 else 1 + ((kidsC c).map (prn ag su lev f)).sum) else 1
theorem kid_one {c : Cl} {f : Nat} (hl : c.1 + ((f + 1 : Nat) : Int) = 16) : ∀ x ∈ kidsC c, x.1 + (f : Int) = 16 ∧ x.1 = c.1 + 1 := by
  intro x hx
  simp only [kidsC, kids, List.mem_cons, List.not_mem_nil, or_false] at hx
  rcases hx with rfl | rfl | rfl | rfl <;> exact ⟨by simp only []; omega, rfl⟩
theorem prt_v {ag su : Cl → Bool} {lev : Int} (h16 : lev ≤ 16) : ∀ (f : Nat) (c : Cl), Vl c → c.1 + (f : Int) = 16 → AllV (prt ag su lev f c) ∧ (∀ q, covL (prt ag su lev f c) q → covL [c] q) ∧ (prt ag su lev f c).length ≤ prn ag su lev f c ∧ ∀ x ∈ prt ag su lev f c, x.1 ≤ max lev c.1 := by
  have one : ∀ c : Cl, Vl c → AllV [c] := fun c hc x hx => by simp at hx; subst hx; exact hc
  intro f
  induction f with
  | zero =>
    intro c hc hl
    unfold prt prn
    split
    · exact ⟨one c hc, fun q h => h, Nat.le_refl _, fun x hx => by simp at hx; subst hx; omega⟩
    · exact ⟨fun x hx => (by cases hx), fun q h => (by obtain ⟨x, hx, -⟩ := h; cases hx), Nat.zero_le _, fun x hx => (by cases hx)⟩
  | succ f ih =>
    intro c hc hl
    unfold prt prn
    split
    · split
      · exact ⟨one c hc, fun q h => h, Nat.le_refl _, fun x hx => by simp at hx; subst hx; omega⟩
      · rename_i hs
        have hlt : c.1 < 16 := by omega
        have hkv := kids_vl hc hlt
        have hkl := kid_one hl
        have hlc : c.1 < lev := by
          have : ¬ lev ≤ c.1 := fun h => hs (.inl h)
          omega
        refine ⟨fun x hx => ?_, fun q h => ?_, ?_, fun x hx => ?_⟩
        · obtain ⟨y, hy, hxy⟩ := List.mem_flatMap.1 hx
          exact (ih y (hkv y hy) (hkl y hy).1).1 x hxy
        · obtain ⟨x, hx, hq⟩ := h
          obtain ⟨y, hy, hxy⟩ := List.mem_flatMap.1 hx
          have := (ih y (hkv y hy) (hkl y hy).1).2.1 q ⟨x, hxy, hq⟩
          rw [← cov_kids hc hlt]
          rw [cov_one] at this
          exact ⟨y, hy, this⟩
        · have key : ∀ K : List Cl, (∀ y ∈ K, y ∈ kidsC c) → (K.flatMap (prt ag su lev f)).length ≤ (K.map (prn ag su lev f)).sum := by
            intro K
            induction K with
            | nil => intro _; simp
            | cons y K ihK =>
              intro hK
              have h1 := (ih y (hkv y (hK y (by simp))) (hkl y (hK y (by simp))).1).2.2.1
              have h2 := ihK (fun z hz => hK z (by simp [hz]))
              simp only [List.flatMap_cons, List.length_append, List.map_cons, List.sum_cons]
              omega
          have := key (kidsC c) (fun _ h => h)
          omega
        · obtain ⟨y, hy, hxy⟩ := List.mem_flatMap.1 hx
          have h1 := (ih y (hkv y hy) (hkl y hy).1).2.2.2 x hxy
          have h2 := (hkl y hy).2
          omega
    · exact ⟨fun x hx => (by cases hx), fun q h => (by obtain ⟨x, hx, -⟩ := h; cases hx), Nat.zero_le _, fun x hx => (by cases hx)⟩
/-! ### the way down to a finest cell -/
def cellAt (q j : Nat) : Cl := cellB (16 - j, q / 4 ^ (16 - j))
theorem cov_div (c : Cl) (q : Nat) : covL [c] q ↔ q / 4 ^ (blkOf c).1 = (blkOf c).2 := by
  have hp : 0 < 4 ^ (blkOf c).1 := Nat.pow_pos (by omega)
  rw [cov_one, spF_blk, spT_blk]
  constructor
  · rintro ⟨h1, h2⟩
    exact Nat.div_eq_of_lt_le h1 h2
  · intro h
    rw [← h]
    exact ⟨Nat.div_mul_le_self _ _, by rw [Nat.mul_comm]; exact Nat.lt_mul_div_succ q hp⟩
theorem cov_at {c : Cl} (hc : Vl c) {q : Nat} (h : covL [c] q) : c = cellAt q c.1.toNat := by
  rw [cov_div] at h
  have e := cellB_blkOf c hc
  unfold cellAt
  have : (16 - c.1.toNat) = (blkOf c).1 := rfl
  rw [this, h, e]
theorem at_kid {c : Cl} (hc : Vl c) (h : c.1 < 16) {q : Nat} (hq : covL [c] q) : cellAt q (c.1.toNat + 1) ∈ kidsC c ∧ covL [cellAt q (c.1.toNat + 1)] q ∧ ∀ x ∈ kidsC c, covL [x] q → x = cellAt q (c.1.toNat + 1) := by
  have key : ∀ x ∈ kidsC c, covL [x] q → x = cellAt q (c.1.toNat + 1) := by
    intro x hx hxq
    have e := cov_at (kids_vl hc h x hx) hxq
    have h0 := hc.l0
    have : x.1.toNat = c.1.toNat + 1 := by
      simp only [kidsC, kids, List.mem_cons, List.not_mem_nil, or_false] at hx
      rcases hx with rfl | rfl | rfl | rfl <;> (simp only []; omega)
    rw [this] at e
    exact e
  obtain ⟨x, hx, hxq⟩ := (cov_kids hc h q).2 hq
  have hxq := (cov_one x q).2 hxq
  have e := key x hx hxq
  rw [← e]
  exact ⟨hx, hxq, fun y hy hyq => by rw [e]; exact key y hy hyq⟩
def gop (ag su : Cl → Bool) (lev : Int) (q : Nat) : Nat → Nat → Prop
  | 0, j => ag (cellAt q j) = true
  | f + 1, j => ag (cellAt q j) = true ∧ ((lev ≤ (j : Int) ∨ su (cellAt q j) = true) ∨ gop ag su lev q f (j + 1))
/-! ### a region that is refined -/
theorem can_great {X : List Cl} {y z : Cl} (hy : y ∈ canonC (covL X)) (hyv : Vl y) (hz : Vl z) {q0 : Nat} (h1 : covL [y] q0) (h2 : covL [z] q0) (hf : ∀ q, covL [z] q → covL X q) : y.1 ≤ z.1 := by
  by_cases hlt : z.1 < y.1
  · exfalso
    have hm : ∃ i, (blkOf y) ∈ canon (covL X) 16 i := by
      unfold canonC at hy
      obtain ⟨b, hb, e⟩ := List.mem_map.1 hy
      have hb16 : b.1 ≤ 16 := by
        rcases List.mem_append.1 hb with h | h
        · exact ((mem_canon (covL X) 16 0 b.1 b.2).1 h).1
        · exact ((mem_canon (covL X) 16 1 b.1 b.2).1 h).1
      rw [← e, blkOf_cellB b hb16]
      rcases List.mem_append.1 hb with h | h
      · exact ⟨0, h⟩
      · exact ⟨1, h⟩
    obtain ⟨i, hm⟩ := hm
    obtain ⟨m1, m2, m3, m4⟩ := (mem_canon (covL X) 16 i (blkOf y).1 (blkOf y).2).1 hm
    have hb := blk_lt z hz
    have y0 := hyv.l0
    have y1 := hyv.l1
    have z0 := hz.l0
    have e1 : (blkOf y).1 = 16 - y.1.toNat := rfl
    have e2 : (blkOf z).1 = 16 - z.1.toNat := rfl
    have hkh : (blkOf y).1 + 1 ≤ (blkOf z).1 := by omega
    rw [cov_div] at h1 h2
    have hfull : full (covL X) (blkOf z).1 (blkOf z).2 := by
      intro q g1 g2
      exact hf q ((cov_one z q).2 ⟨g1, g2⟩)
    rcases m4 with m4 | m4
    · omega
    · refine m4 (full_sub hfull hkh ?_)
      rw [← h1, ← h2, Nat.div_div_eq_div_mul, Nat.mul_comm 4, ← Nat.pow_succ, Nat.div_div_eq_div_mul, ← Nat.pow_add]
      congr 2
      omega
  · omega
theorem prt_leaf {ag su : Cl → Bool} {lev : Int} (h16 : lev ≤ 16) {c : Cl} (hc : Vl c) (ha : ag c = true) (hs : lev ≤ c.1 ∨ su c = true) (f : Nat) : prt ag su lev f c = [c] := by
  cases f with
  | zero => unfold prt; rw [if_pos ha]
  | succ f => unfold prt; rw [if_pos ha, if_pos hs]
/-- on the way from a cell of the start down to a cell of the region, nothing stops -/
theorem way {ag su : Cl → Bool} {lev : Int} (h16 : lev ≤ 16) {X : List Cl} (hX : AllV X) {y : Cl} (hy : y ∈ canonC (covL X)) {q : Nat} (hyq : covL [y] q) (hqX : ∀ q, covL [y] q → covL X q) : ∀ (f : Nat) (c : Cl), Vl c → c.1 + (f : Int) = 16 → covL [c] q → c.1 ≤ y.1 → (∀ q, covL [c] q → (covL X q ↔ covL (prt ag su lev f c) q)) →
    ∃ g : Nat, y.1 + (g : Int) = 16 ∧ (∀ q', covL [y] q' → (∀ lev' : Int, lev ≤ lev' → (gop ag su lev' q' f c.1.toNat ↔ gop ag su lev' q' g y.1.toNat))) ∧ (∀ lev' : Int, lev ≤ lev' → prn ag su lev' g y ≤ prn ag su lev' f c) ∧ (y.1 ≤ max lev c.1) := by
  have hyv := can_v X hX y hy
  intro f
  induction f with
  | zero =>
    intro c hc hl hq hle hcov
    have e : y.1 = c.1 := by have := hyv.l1; omega
    have e2 : y = c := by rw [cov_at hyv hyq, cov_at hc hq, e]
    subst e2
    exact ⟨0, hl, fun _ _ _ _ => Iff.rfl, fun _ _ => Nat.le_refl _, by omega⟩
  | succ f ih =>
    intro c hc hl hq hle hcov
    by_cases e : y.1 = c.1
    · have e2 : y = c := by rw [cov_at hyv hyq, cov_at hc hq, e]
      subst e2
      exact ⟨f + 1, hl, fun _ _ _ _ => Iff.rfl, fun _ _ => Nat.le_refl _, by omega⟩
    · have hlt : c.1 < 16 := by omega
      have h0 := hc.l0
      have hin := (hcov q hq).1 (hqX q hyq)
      have ha : ag c = true := by
        by_cases ha : ag c = true
        · exact ha
        · unfold prt at hin
          rw [if_neg ha] at hin
          obtain ⟨x, hx, -⟩ := hin
          cases hx
      have hs : ¬ (lev ≤ c.1 ∨ su c = true) := by
        intro hs
        have hfull : ∀ q, covL [c] q → covL X q := by
          intro q' hq'
          rw [hcov q' hq', prt_leaf h16 hc ha hs]
          exact hq'
        have := can_great hy hyv hc hyq hq hfull
        omega
      obtain ⟨k1, k2, k3⟩ := at_kid hc hlt hq
      generalize hd : cellAt q (c.1.toNat + 1) = d at k1 k2 k3
      have hdv := kids_vl hc hlt d k1
      have hdf := kid_one hl d k1
      obtain ⟨g, g1, g2, g3, g4⟩ := ih d hdv hdf.1 k2 (by omega) (by
        intro q' hq'
        have hq'c : covL [c] q' := (cov_kids hc hlt q').1 ⟨d, k1, (cov_one d q').1 hq'⟩
        rw [hcov q' hq'c]
        conv => lhs; unfold prt
        rw [if_pos ha, if_neg hs]
        obtain ⟨-, -, j3⟩ := at_kid hc hlt hq'c
        have ed := j3 d k1 hq'
        constructor
        · rintro ⟨x, hx, hxq⟩
          obtain ⟨z, hz, hxz⟩ := List.mem_flatMap.1 hx
          have hzq := (prt_v h16 f z (kids_vl hc hlt z hz) (kid_one hl z hz).1).2.1 q' ⟨x, hxz, hxq⟩
          have := j3 z hz hzq
          rw [← ed] at this
          subst this
          exact ⟨x, hxz, hxq⟩
        · rintro ⟨x, hx, hxq⟩
          exact ⟨x, List.mem_flatMap.2 ⟨d, k1, hx⟩, hxq⟩)
      have hlc : ¬ lev ≤ c.1 := fun h => hs (.inl h)
      have hsu : ¬ su c = true := fun h => hs (.inr h)
      refine ⟨g, g1, fun q' hq' lev' hl' => ?_, fun lev' hl' => ?_, by omega⟩
      · rw [← g2 q' hq' lev' hl']
        have hq'd : covL [d] q' := by
          -- y lies within d
          have hlt2 : d.1 ≤ y.1 := by omega
          rw [cov_div] at hq' hyq k2 ⊢
          have b1 : (blkOf y).1 ≤ (blkOf d).1 := by
            show 16 - y.1.toNat ≤ 16 - d.1.toNat
            have := hyv.l0
            omega
          rw [← k2, show (blkOf d).1 = (blkOf y).1 + ((blkOf d).1 - (blkOf y).1) by omega, Nat.pow_add, ← Nat.div_div_eq_div_mul, ← Nat.div_div_eq_div_mul, hq', hyq]
        have hq'c : covL [c] q' := (cov_kids hc hlt q').1 ⟨d, k1, (cov_one d q').1 hq'd⟩
        have e1 : cellAt q' c.1.toNat = c := (cov_at hc hq'c).symm
        have e3 : d.1.toNat = c.1.toNat + 1 := by omega
        conv => lhs; unfold gop
        rw [e1, e3]
        constructor
        · rintro ⟨-, (h | h) | h⟩
          · exfalso; omega
          · exact absurd h hsu
          · exact h
        · intro h; exact ⟨ha, .inr h⟩
      · refine Nat.le_trans (g3 lev' hl') ?_
        conv => rhs; unfold prn
        rw [if_pos ha, if_neg (by rintro (h | h); · omega
                                  · exact hsu h)]
        have key : ∀ K : List Cl, d ∈ K → prn ag su lev' f d ≤ (K.map (prn ag su lev' f)).sum := by
          intro K
          induction K with
          | nil => intro h; cases h
          | cons z K ihK =>
            intro h
            simp only [List.map_cons, List.sum_cons]
            rcases List.mem_cons.1 h with rfl | h
            · omega
            · have := ihK h; omega
        have := key _ k1
        omega
end Go.Proofs.YtifdgdgfmjfbdaaGreat
