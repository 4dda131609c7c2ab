/- Plain: the enclosure of the sine over an arc of the upper half, and over a part of it. No program in sight. -/
import Derived.Test.YtnbbemlchchmoaaGreatHGd
import Derived.Test.YtnbbemlchchmoaaGreatHKz
import Derived.Test.YtnbbemlchchmoaaGreatHJe
set_option linter.unusedVariables false
set_option linter.unusedSimpArgs false
namespace Go.Proofs.YtnbbemlchchmoaaGreat
open Canon
/-! ### points of places and of cells -/
/-- a longitude, turned by any number of turns, is in an arc -/
def lonP (a : Sp) (x : Int) : Prop := (x - a.1) % 21600000 ≤ a.2 - a.1
/-- a point is in a place -/
def inX (p : Bx) (y x : Int) : Prop := p.1 ≤ y ∧ y ≤ p.2.1 ∧ lonP (p.2.2.1, p.2.2.2) x
theorem pt_meet {p b : Bx} (hp : VP p) (hb : VP b) {y x : Int} (h1 : inX p y x) (h2 : inX b y x) : meetB p b = true := by
  obtain ⟨p0, p1, p2, p3⟩ := p
  obtain ⟨b0, b1, b2, b3⟩ := b
  obtain ⟨q1, q2, q3, q4⟩ := hp
  obtain ⟨r1, r2, r3, r4⟩ := hb
  obtain ⟨u1, u2, u3⟩ := h1
  obtain ⟨v1, v2, v3⟩ := h2
  unfold VL at q4 r4
  unfold lonP at u3 v3
  unfold meetB lonM
  simp only [Bool.and_eq_true, decide_eq_true_eq] at *
  omega
theorem meet_pt {p b : Bx} (hp : VP p) (hb : VP b) (h : meetB p b = true) : ∃ y x, inX p y x ∧ inX b y x := by
  obtain ⟨p0, p1, p2, p3⟩ := p
  obtain ⟨b0, b1, b2, b3⟩ := b
  obtain ⟨q1, q2, q3, q4⟩ := hp
  obtain ⟨r1, r2, r3, r4⟩ := hb
  unfold VL at q4 r4
  unfold meetB lonM at h
  unfold inX lonP
  simp only [Bool.and_eq_true, decide_eq_true_eq] at *
  obtain ⟨⟨h1, h2⟩, h⟩ := h
  rcases h with h | h | h
  · exact ⟨max p0 b0, max p2 (b2 - 21600000), by omega, by omega⟩
  · exact ⟨max p0 b0, max p2 b2, by omega, by omega⟩
  · exact ⟨max p0 b0, max p2 (b2 + 21600000), by omega, by omega⟩
theorem ins_pt {a b : Bx} (ha : VP a) (hb : VP b) (h : insX a b = true) {y x : Int} (hx : inX a y x) : inX b y x := by
  obtain ⟨a0, a1, a2, a3⟩ := a
  obtain ⟨b0, b1, b2, b3⟩ := b
  obtain ⟨q1, q2, q3, q4⟩ := ha
  obtain ⟨r1, r2, r3, r4⟩ := hb
  unfold VL at q4 r4
  unfold insX insA at h
  unfold inX lonP at hx ⊢
  simp only [Bool.and_eq_true, Bool.or_eq_true, Bool.not_eq_true', decide_eq_true_eq, decide_eq_false_iff_not] at *
  omega
theorem ins_meet {a b c : Bx} (ha : VP a) (hb : VP b) (hc : VP c) (h : insX a b = true) (hm : meetB a c = true) : meetB b c = true := by
  obtain ⟨y, x, h1, h2⟩ := meet_pt ha hc hm
  exact pt_meet hb hc (ins_pt ha hb h h1) h2
theorem bxI_vp {x : Cl} (hx : Vl x) : VP (bxI x) := by
  have h := bx_facts hx
  exact ⟨h.2.1, h.1, h.2.2.1, .inr ⟨h.2.2.2.1, h.2.2.2.2.2.2.2, h.2.2.2.2.1, h.2.2.2.2.2.2.1⟩⟩
/-- one box in another one, both not across the end of longitudes -/
def nst (a b : Bx) : Prop := b.1 ≤ a.1 ∧ a.2.1 ≤ b.2.1 ∧ b.2.2.1 ≤ a.2.2.1 ∧ a.2.2.2 ≤ b.2.2.2
theorem nst.refl (a : Bx) : nst a a := ⟨Int.le_refl _, Int.le_refl _, Int.le_refl _, Int.le_refl _⟩
theorem nst.trans {a b c : Bx} (h : nst a b) (k : nst b c) : nst a c := ⟨Int.le_trans k.1 h.1, Int.le_trans h.2.1 k.2.1, Int.le_trans k.2.2.1 h.2.2.1, Int.le_trans h.2.2.2 k.2.2.2⟩
theorem nst_pt {a b : Bx} (h : nst a b) (hb : b.2.2.2 - b.2.2.1 < 21600000) {y x : Int} (hx : inX a y x) : inX b y x := by
  obtain ⟨h1, h2, h3, h4⟩ := h
  obtain ⟨u1, u2, u3⟩ := hx
  unfold lonP at u3
  simp only [] at u3
  refine ⟨by omega, by omega, ?_⟩
  unfold lonP
  simp only []
  omega
theorem fin_vl {q : Nat} (h : q < 2 * 4 ^ 16) : Vl (cellB (0, q)) := cellB_vl (0, q) (by simp) (by simpa using h)
theorem fin_nst : ∀ (f : Nat) (c : Cl), Vl c → c.1 + (f : Int) = 16 → ∀ q, covL [c] q → nst (bxI (cellB (0, q))) (bxI c) := by
  intro f
  induction f with
  | zero =>
    intro c hc hl q hq
    have h1 := (cov_one c q).1 hq
    have e : blkOf c = (0, q) := by
      have e1 : (blkOf c).1 = 0 := by show 16 - c.1.toNat = 0; omega
      rw [spF_blk, spT_blk, e1] at h1
      refine Prod.ext e1 ?_
      simp only [Nat.pow_zero, Nat.mul_one] at h1
      show (blkOf c).2 = q
      omega
    have := cellB_blkOf c hc
    rw [e] at this
    rw [this]
    exact nst.refl _
  | succ f ih =>
    intro c hc hl q hq
    have h16 : c.1 < 16 := by omega
    obtain ⟨d, hd, h1⟩ := (cov_kids hc h16 q).2 hq
    have hn := kid_nest hc h16 hd
    have hdl : d.1 + (f : Int) = 16 := by
      simp only [kidsC, kids, List.mem_cons, List.not_mem_nil, or_false] at hd
      rcases hd with rfl | rfl | rfl | rfl <;> (simp only []; omega)
    exact (ih d (kids_vl hc h16 d hd) hdl q ((cov_one d q).2 h1)).trans ⟨hn.1, hn.2.1, hn.2.2.1, hn.2.2.2⟩
theorem fin_in {c : Cl} (hc : Vl c) {q : Nat} (h : covL [c] q) : nst (bxI (cellB (0, q))) (bxI c) := by
  have h0 := hc.l0
  have h1 := hc.l1
  exact fin_nst (16 - c.1).toNat c hc (by omega) q h
/-- all cells that have a number meet: then the number is covered -/
theorem arn_full {mt : Cl → Bool} {lev : Int} (h16 : lev ≤ 16) {q : Nat} (hm : ∀ d, Vl d → covL [d] q → mt d = true) : ∀ (f : Nat) (c : Cl), Vl c → c.1 + (f : Int) = lev → covL [c] q → covL (arnL mt lev f c) q := by
  intro f
  induction f with
  | zero =>
    intro c hc hl hq
    unfold arnL
    rw [if_pos (hm c hc hq), if_pos (by omega)]
    exact hq
  | succ f ih =>
    intro c hc hl hq
    unfold arnL
    rw [if_pos (hm c hc hq), if_neg (by omega)]
    have hk : c.1 < 16 := by omega
    obtain ⟨d, hd, h1⟩ := (cov_kids hc hk q).2 hq
    have hdl : d.1 + (f : Int) = lev := by
      simp only [kidsC, kids, List.mem_cons, List.not_mem_nil, or_false] at hd
      rcases hd with rfl | rfl | rfl | rfl <;> (simp only []; omega)
    obtain ⟨z, hz, h2⟩ := ih d (kids_vl hc hk d hd) hdl ((cov_one d q).2 h1)
    exact ⟨z, List.mem_flatMap.2 ⟨d, hd, hz⟩, h2⟩
theorem top_cov {q : Nat} (h : q < 2 * 4 ^ 16) : covL [(0, 0, 0)] q ∨ covL [(0, 0, 1)] q := by
  have e0 : spF (0, 0, 0) = 0 := by decide
  have e1 : spT (0, 0, 0) = 4 ^ 16 := by decide +kernel
  have e2 : spF (0, 0, 1) = 4 ^ 16 := by decide +kernel
  have e3 : spT (0, 0, 1) = 2 * 4 ^ 16 := by decide +kernel
  rw [cov_one, cov_one, e0, e1, e2, e3]
  omega
theorem arnA_full {mt : Cl → Bool} {lev : Int} (h0 : 0 ≤ lev) (h16 : lev ≤ 16) {q : Nat} (hq : q < 2 * 4 ^ 16) (hm : ∀ d, Vl d → covL [d] q → mt d = true) : covL (arnA mt lev) q := by
  unfold arnA
  rw [cov_appL]
  rcases top_cov hq with h | h
  · exact .inl (arn_full h16 hm lev.toNat _ (top_vl 0 (by omega) (by omega)) (by simp only []; omega) h)
  · exact .inr (arn_full h16 hm lev.toNat _ (top_vl 1 (by omega) (by omega)) (by simp only []; omega) h)
/-- a number whose finest cell has a point of a place is covered by the cells around the place -/
theorem arn_pt {p : Bx} (hp : VP p) {lev : Int} (h0 : 0 ≤ lev) (h16 : lev ≤ 16) {q : Nat} (hq : q < 2 * 4 ^ 16) {y x : Int} (h1 : inX p y x) (h2 : inX (bxI (cellB (0, q))) y x) : covL (arnA (mtP p) lev) q := by
  refine arnA_full h0 h16 hq fun d hd hc => ?_
  have hf := bx_facts hd
  exact pt_meet hp (bxI_vp hd) h1 (nst_pt (fin_in hd hc) hf.2.2.2.2.2.2.1 h2)
/-- the cells around a part of a place are some of those around the place -/
theorem arn_mono {mt mt' : Cl → Bool} {lev : Int} (h16 : lev ≤ 16) (hm : ∀ d, Vl d → mt d = true → mt' d = true) : ∀ (f : Nat) (c : Cl), Vl c → c.1 + (f : Int) = lev → (arnL mt lev f c).length ≤ (arnL mt' lev f c).length ∧ ∀ z ∈ arnL mt lev f c, z ∈ arnL mt' lev f c := by
  intro f
  induction f with
  | zero =>
    intro c hc hl
    unfold arnL
    by_cases h : mt c = true
    · rw [if_pos h, if_pos (hm c hc h)]
      exact ⟨Nat.le_refl _, fun z hz => hz⟩
    · rw [if_neg h]
      exact ⟨Nat.zero_le _, fun z hz => by cases hz⟩
  | succ f ih =>
    intro c hc hl
    unfold arnL
    by_cases h : mt c = true
    · rw [if_pos h, if_pos (hm c hc h), if_neg (by omega), if_neg (by omega)]
      have hk : c.1 < 16 := by omega
      have hkv := kids_vl hc hk
      have hkl : ∀ d ∈ kidsC c, d.1 + (f : Int) = lev := fun d hd => by
        simp only [kidsC, kids, List.mem_cons, List.not_mem_nil, or_false] at hd
        rcases hd with rfl | rfl | rfl | rfl <;> (simp only []; omega)
      generalize kidsC c = K at hkv hkl
      constructor
      · clear h
        induction K with
        | nil => simp
        | cons d K ihK =>
          have h1 := (ih d (hkv d (List.mem_cons_self ..)) (hkl d (List.mem_cons_self ..))).1
          have h2 := ihK (fun y hy => hkv y (List.mem_cons_of_mem _ hy)) (fun y hy => hkl y (List.mem_cons_of_mem _ hy))
          simp only [List.flatMap_cons, List.length_append]
          omega
      · intro z hz
        obtain ⟨d, hd, hz⟩ := List.mem_flatMap.1 hz
        exact List.mem_flatMap.2 ⟨d, hd, (ih d (hkv d hd) (hkl d hd)).2 z hz⟩
    · rw [if_neg h]
      exact ⟨Nat.zero_le _, fun z hz => by cases hz⟩
theorem arnA_mono {mt mt' : Cl → Bool} {lev : Int} (h0 : 0 ≤ lev) (h16 : lev ≤ 16) (hm : ∀ d, Vl d → mt d = true → mt' d = true) : (arnA mt lev).length ≤ (arnA mt' lev).length ∧ ∀ q, covL (arnA mt lev) q → covL (arnA mt' lev) q := by
  obtain ⟨a1, a2⟩ := arn_mono h16 hm lev.toNat (0, 0, 0) (top_vl 0 (by omega) (by omega)) (by simp only []; omega)
  obtain ⟨b1, b2⟩ := arn_mono h16 hm lev.toNat (0, 0, 1) (top_vl 1 (by omega) (by omega)) (by simp only []; omega)
  unfold arnA
  refine ⟨by rw [List.length_append, List.length_append]; omega, fun q hq => ?_⟩
  obtain ⟨z, hz, h⟩ := hq
  rcases List.mem_append.1 hz with hz | hz
  · exact ⟨z, List.mem_append_left _ (a2 z hz), h⟩
  · exact ⟨z, List.mem_append_right _ (b2 z hz), h⟩
theorem arn_ins {a b : Bx} (ha : VP a) (hb : VP b) (h : insX a b = true) {lev : Int} (h0 : 0 ≤ lev) (h16 : lev ≤ 16) : (arnA (mtP a) lev).length ≤ (arnA (mtP b) lev).length ∧ ∀ q, covL (arnA (mtP a) lev) q → covL (arnA (mtP b) lev) q :=
  arnA_mono h0 h16 fun _ hd hm => ins_meet ha hb (bxI_vp hd) h hm
/-- a point of the sphere: its finest cell -/
theorem pt_fin_ex {y x : Int} (h0 : -5400000 ≤ y) (h1 : y ≤ 5400000) : ∃ q, q < 2 * 4 ^ 16 ∧ inX (bxI (cellB (0, q))) y x := by
  obtain ⟨b, hb, hb0, hb1⟩ : ∃ b : Int, (x - b) % 21600000 = 0 ∧ -10800000 ≤ b ∧ b < 10800000 := ⟨(x + 10800000) % 21600000 - 10800000, by omega, by omega, by omega⟩
  have hv : vptB y b = true := vptB_true.2 ⟨h0, h1, hb0, hb1⟩
  obtain ⟨hV, g1, g2, g3, g4⟩ := of_in hv (l := 16) (by omega) (by omega)
  have hl : (ofC y b 16).1 = 16 := rfl
  generalize ofC y b 16 = c at *
  obtain ⟨b1, b2⟩ := blk_lt c hV
  have e1 : (blkOf c).1 = 0 := by show 16 - c.1.toNat = 0; rw [hl]; rfl
  have e : cellB (0, (blkOf c).2) = c := by
    have := cellB_blkOf c hV
    rw [show blkOf c = ((blkOf c).1, (blkOf c).2) from rfl, e1] at this
    exact this
  rw [e1] at b2
  refine ⟨(blkOf c).2, b2, ?_⟩
  rw [e]
  unfold inX lonP bxI
  rw [hl]
  simp only []
  generalize edg c.2.1 16 = x0 at *
  generalize edg (c.2.1 + 1) 16 = x1 at *
  generalize edg c.2.2 16 = x2 at *
  generalize edg (c.2.2 + 1) 16 = x3 at *
  omega
end Go.Proofs.YtnbbemlchchmoaaGreat
namespace Go.Proofs.YtnbbemlchchmoaaGreat.Trig
theorem up_lin {h C X : Rat} (h0 : 1 / 2 ^ 22 ≤ h) (h1 : h ≤ 1 / 10000) (c0 : 1 / 2 ≤ C) (c1 : C ≤ 1) (x0 : 0 ≤ X) (x1 : X ≤ 1) :
    h * h / 2 * X + h * h * h / 6 * C + (h * h * h * h * (3 / 5) + 1 / 2 ^ 65 / 2) ≤ h * C := by
  have hp : 0 ≤ h := by grind
  have a2 : 0 ≤ h * h := Rat.mul_nonneg hp hp
  have a3 : 0 ≤ h * h * h := Rat.mul_nonneg a2 hp
  have b2 : h * h ≤ h * (1 / 10000) := Rat.mul_le_mul_of_nonneg_left h1 hp
  have b3 : h * h * h ≤ h * h * (1 / 10000) := Rat.mul_le_mul_of_nonneg_left h1 a2
  have b4 : h * h * h * h ≤ h * h * h * (1 / 10000) := Rat.mul_le_mul_of_nonneg_left h1 a3
  have d1 : h * (1 / 2) ≤ h * C := Rat.mul_le_mul_of_nonneg_left c0 hp
  have d2 : h * h * X ≤ h * h * 1 := Rat.mul_le_mul_of_nonneg_left x1 a2
  have d3 : h * h * h * C ≤ h * h * h * 1 := Rat.mul_le_mul_of_nonneg_left c1 a3
  have e1 : (1 : Rat) / 2 ^ 65 / 2 ≤ 1 / 2 ^ 22 / 10000 := by decide +kernel
  have e2 : h * h / 2 * X = h * h * X / 2 := by grind
  have e3 : h * h * h / 6 * C = h * h * h * C / 6 := by grind
  rw [e2, e3]
  generalize (1 : Rat) / 2 ^ 65 / 2 = z at *
  generalize (1 : Rat) / 2 ^ 22 = y at *
  generalize h * h * h * h = h4 at *
  generalize h * h * h * C = q3 at *
  generalize h * h * X = q2 at *
  generalize h * h * h = h3 at *
  generalize h * h = h2 at *
  generalize h * C = q1 at *
  grind_linarith
theorem down_lin {h C X : Rat} (h0 : 1 / 2 ^ 22 ≤ h) (h1 : h ≤ 1 / 10000) (c0 : 1 / 2 ≤ C) (x0 : 0 ≤ X) :
    h * h * h / 6 * X + (h * h * h * h * (3 / 5) + 1 / 2 ^ 65 / 2) ≤ h * X + h * h / 2 * C := by
  have hp : 0 ≤ h := by grind
  have a2 : 0 ≤ h * h := Rat.mul_nonneg hp hp
  have a3 : 0 ≤ h * h * h := Rat.mul_nonneg a2 hp
  have aX : 0 ≤ h * X := Rat.mul_nonneg hp x0
  have b2 : h * h ≤ h * (1 / 10000) := Rat.mul_le_mul_of_nonneg_left h1 hp
  have b3 : h * h * h ≤ h * h * (1 / 10000) := Rat.mul_le_mul_of_nonneg_left h1 a2
  have b4 : h * h * h * h ≤ h * h * h * (1 / 10000) := Rat.mul_le_mul_of_nonneg_left h1 a3
  have s2 : h * h ≤ 1 := by grind
  have d1 : h * X * (h * h) ≤ h * X * 1 := Rat.mul_le_mul_of_nonneg_left s2 aX
  have d2 : h * h * (1 / 2) ≤ h * h * C := Rat.mul_le_mul_of_nonneg_left c0 a2
  have g1 : h * (1 / 2 ^ 22) ≤ h * h := Rat.mul_le_mul_of_nonneg_left h0 hp
  have g2 : (1 : Rat) / 2 ^ 22 * (1 / 2 ^ 22) ≤ h * (1 / 2 ^ 22) := Rat.mul_le_mul_of_nonneg_right h0 (by decide +kernel)
  have e1 : (1 : Rat) / 2 ^ 65 / 2 ≤ 1 / 2 ^ 22 * (1 / 2 ^ 22) / 10000 := by decide +kernel
  have e2 : h * h / 2 * C = h * h * C / 2 := by grind
  have e3 : h * h * h / 6 * X = h * X * (h * h) / 6 := by grind
  rw [e2, e3]
  generalize (1 : Rat) / 2 ^ 65 / 2 = z at *
  generalize (1 : Rat) / 2 ^ 22 * (1 / 2 ^ 22) = y2 at *
  generalize h * (1 / 2 ^ 22) = hy at *
  generalize h * X * (h * h) = q3 at *
  generalize h * h * h * h = h4 at *
  generalize h * h * C = q2 at *
  generalize h * h * h = h3 at *
  generalize h * h = h2 at *
  generalize h * X = q1 at *
  grind_linarith
theorem th_mid : (1 : Rat) / 2 ^ 22 ≤ th ∧ th ≤ 1 / 10000 ∧ th ≤ 1 / 5 := by decide +kernel
theorem sc_bd {x : Rat} (hx : 0 ≤ x) (hx1 : x ≤ 4 / 5) : 0 ≤ sinP x ∧ sinP x ≤ 1 ∧ 1 / 2 ≤ cosP x ∧ cosP x ≤ 1 := by
  have h1 : x ≤ 1 := by grind
  have a := alt_bd hx h1 35 1
  have b := alt_bd hx h1 35 0
  have m0 : mo x 0 = 1 := by simp [mo]
  have m1 := mo_le1 hx h1 1
  have c := alt_mis x 34 0
  have d := mis_bd hx hx1 34 0
  rw [← sin_alt] at a
  rw [← cos_alt] at b
  rw [show 34 + 1 = 35 from rfl, ← cos_alt, m0] at c
  rw [m0] at b
  refine ⟨a.1, by grind, by grind, b.2⟩
theorem sin_up {x : Rat} (hx : 0 ≤ x) (hx1 : x ≤ 4 / 5) : sinP x ≤ sinP (x + th) := by
  obtain ⟨t0, t1, t2⟩ := th_mid
  obtain ⟨s0, s1, k0, k1⟩ := sc_bd hx hx1
  have h := sin_shift (x := x) (h := th) hx (by grind) (by grind) t1
  have g := up_lin t0 t1 k0 k1 s0 s1
  obtain ⟨-, h⟩ := h
  generalize th * th * th * th * (3 / 5) + 1 / 2 ^ 65 / 2 = e at *
  generalize th * th * th / 6 * cosP x = q3 at *
  generalize th * th / 2 * sinP x = q2 at *
  generalize th * cosP x = q1 at *
  grind_linarith
theorem cos_down {x : Rat} (hx : 0 ≤ x) (hx1 : x ≤ 4 / 5) : cosP (x + th) ≤ cosP x := by
  obtain ⟨t0, t1, t2⟩ := th_mid
  obtain ⟨s0, s1, k0, k1⟩ := sc_bd hx hx1
  have h := cos_shift (x := x) (h := th) hx (by grind) (by grind) t1
  have g := down_lin t0 t1 k0 s0
  obtain ⟨h, -⟩ := h
  generalize th * th * th * th * (3 / 5) + 1 / 2 ^ 65 / 2 = e at *
  generalize th * th * th / 6 * sinP x = q3 at *
  generalize th * th / 2 * cosP x = q2 at *
  generalize th * sinP x = q1 at *
  grind_linarith
/-- two numbers near others that do not fall; the second one is far from whole numbers -/
theorem floor_le {a b : Nat} {P Q : Rat} (ha : Nr (a : Rat) (P * Y) 75) (hb : Nr (b : Rat) (Q * Y) 75) (h : P ≤ Q) (hf : farB b = true) : a / 4294967296 ≤ b / 4294967296 := by
  have h1 : (a : Rat) ≤ ((b + 150 : Nat) : Rat) := by
    have hy : P * Y ≤ Q * Y := Rat.mul_le_mul_of_nonneg_right h (by unfold Y; decide +kernel)
    obtain ⟨a1, a2⟩ := ha
    obtain ⟨b1, b2⟩ := hb
    push_cast
    grind_linarith
  have h2 : a ≤ b + 150 := by exact_mod_cast h1
  unfold farB at hf
  rw [Bool.and_eq_true, Nat.ble_eq, Nat.ble_eq] at hf
  omega
theorem floor_ge {a b : Nat} {P Q : Rat} (ha : Nr (a : Rat) (P * Y) 75) (hb : Nr (b : Rat) (Q * Y) 75) (h : P ≤ Q) (hf : farB a = true) : a / 4294967296 ≤ b / 4294967296 := by
  have h1 : (a : Rat) ≤ ((b + 150 : Nat) : Rat) := by
    have hy : P * Y ≤ Q * Y := Rat.mul_le_mul_of_nonneg_right h (by unfold Y; decide +kernel)
    obtain ⟨a1, a2⟩ := ha
    obtain ⟨b1, b2⟩ := hb
    push_cast
    grind_linarith
  have h2 : a ≤ b + 150 := by exact_mod_cast h1
  unfold farB at hf
  rw [Bool.and_eq_true, Nat.ble_eq, Nat.ble_eq] at hf
  omega
theorem ang_succ (r : Nat) : ((r + 1 : Nat) : Rat) * th = (r : Rat) * th + th := by push_cast; grind
theorem quick_up {r : Nat} (h0 : 1 ≤ r) (h : r + 1 ≤ 2700000) (h1 : r ≠ 1800000) (h2 : r + 1 ≠ 1800000) : quickN r false / 4294967296 ≤ quickN (r + 1) false / 4294967296 := by
  obtain ⟨x0, x1⟩ := ang_bd (r := r) (by omega)
  have hq := quick_sin (r := r + 1) h
  rw [ang_succ] at hq
  exact floor_le (quick_sin (r := r) (by omega)) hq (sin_up x0 x1) ((far_all (r := r + 1) (by omega) h).2 h2)
theorem quick_down {r : Nat} (h0 : 1 ≤ r) (h : r + 1 ≤ 2700000) : quickN (r + 1) true / 4294967296 ≤ quickN r true / 4294967296 := by
  obtain ⟨x0, x1⟩ := ang_bd (r := r) (by omega)
  have hq := quick_cos (r := r + 1) h
  rw [ang_succ] at hq
  exact floor_ge hq (quick_cos (r := r) (by omega)) (cos_down x0 x1) ((far_all (r := r + 1) (by omega) h).1)
theorem near_30 : quickN 1799999 false / 4294967296 + 1 ≤ 536870912 ∧ 536870912 ≤ quickN 1800001 false / 4294967296 := by decide +kernel
theorem sF_step {q : Int} (h0 : 0 ≤ q) (h1 : q + 1 ≤ 5400000) : sF q ≤ sF (q + 1) ∧ (exN (q + 1) = true → exN q = false → sF q + 1 ≤ sF (q + 1)) := by
  have b0 := sF_bd (q := q) h0 (by omega)
  have b1 := sF_bd (q := q + 1) (by omega) h1
  by_cases c0 : q = 0
  · subst c0
    refine ⟨by have : sF 0 = 0 := by decide
               omega, fun _ h => ?_⟩
    simp [exN] at h
  by_cases c1 : q + 1 = 1800000
  · have e1 : sF (q + 1) = 536870912 := by rw [c1]; decide
    have e0 : sF q = ((quickN 1799999 false / 4294967296 : Nat) : Int) := by
      have : q = 1799999 := by omega
      subst this
      unfold sF
      simp
    have := near_30.1
    omega
  by_cases c2 : q = 1800000
  · subst c2
    have e1 : sF 1800000 = 536870912 := by decide
    have e0 : sF (1800000 + 1) = ((quickN 1800001 false / 4294967296 : Nat) : Int) := by
      unfold sF
      simp
    have := near_30.2
    refine ⟨by omega, fun _ h => ?_⟩
    simp [exN] at h
  by_cases c3 : q + 1 = 5400000
  · have e1 : sF (q + 1) = 1073741824 := by rw [c3]; decide
    have hx : exN q = false := by
      unfold exN
      simp only [Bool.or_eq_false_iff, decide_eq_false_iff_not]
      omega
    have := upF_le (q := q) h0 (by omega)
    unfold upF at this
    rw [hx] at this
    simp at this
    omega
  have hx : exN (q + 1) = false := by
    unfold exN
    simp only [Bool.or_eq_false_iff, decide_eq_false_iff_not]
    omega
  refine ⟨?_, fun h => by rw [hx] at h; simp at h⟩
  clear b0 b1
  unfold sF
  rw [if_neg c0, if_neg c2, if_neg (by omega : ¬ q = 5400000), if_neg (by omega : ¬ q + 1 = 0), if_neg c1, if_neg c3]
  by_cases d : 2 * (q + 1) ≤ 5400000
  · rw [if_pos (by omega), if_pos d]
    have := quick_up (r := q.toNat) (by omega) (by omega) (by omega) (by omega)
    rw [show q.toNat + 1 = (q + 1).toNat by omega] at this
    omega
  · by_cases d2 : 2 * q ≤ 5400000
    · rw [if_pos d2, if_neg d]
      have hq : q = 2700000 := by omega
      subst hq
      have := quick_down (r := 2699999) (by omega) (by omega)
      have e := same45
      rw [show 2699999 + 1 = 2700000 from rfl, e] at this
      have e2 : (5400000 - (2700000 + 1) : Int).toNat = 2699999 := by decide
      have e3 : (2700000 : Int).toNat = 2700000 := by decide
      rw [e2, e3]
      generalize quickN 2700000 false / 4294967296 = a at *
      generalize quickN 2699999 true / 4294967296 = b at *
      omega
    · rw [if_neg d2, if_neg d]
      have := quick_down (r := (5400000 - (q + 1)).toNat) (by omega) (by omega)
      rw [show (5400000 - (q + 1)).toNat + 1 = (5400000 - q).toNat by omega] at this
      omega
theorem upF_step {q : Int} (h0 : 0 ≤ q) (h1 : q + 1 ≤ 5400000) : upF q ≤ upF (q + 1) := by
  obtain ⟨a, b⟩ := sF_step h0 h1
  unfold upF
  cases e0 : exN q <;> cases e1 : exN (q + 1) <;> simp only [Bool.false_eq_true, if_false, if_true]
  · omega
  · have := b e1 e0
    omega
  · omega
  · exact a
theorem low_sF {n : Int} (h0 : 0 ≤ n) (h1 : n ≤ 5400000) : loB n = sF n := by
  have e : sth n = false := by unfold sth; rw [decide_eq_false_iff_not]; omega
  have e2 : qrt n = n := by unfold qrt; omega
  unfold loB
  rw [e, e2]; simp
theorem low_upF {n : Int} (h0 : 0 < n) (h1 : n ≤ 5400000) : loB (-n) = - upF n := by
  have e : sth (-n) = true := by unfold sth; rw [decide_eq_true_iff]; omega
  have e2 : qrt (-n) = n := by unfold qrt; omega
  unfold loB
  rw [e, e2]; simp
theorem loB_step {n : Int} (h0 : -5400000 ≤ n) (h1 : n + 1 ≤ 5400000) : loB n ≤ loB (n + 1) := by
  by_cases c : 0 ≤ n
  · rw [low_sF c (by omega), low_sF (by omega) h1]
    exact (sF_step c h1).1
  · by_cases c2 : n = -1
    · subst c2
      have e : loB (-1) = - upF 1 := low_upF (n := 1) (by omega) (by omega)
      have e2 : loB (-1 + 1) = 0 := by decide
      have h := (sF_bd (q := 1) (by omega) (by omega)).1
      have : sF 1 ≤ upF 1 := by unfold upF; split <;> omega
      omega
    · have e1 : loB n = - upF (-n) := by have := low_upF (n := -n) (by omega) (by omega); simpa using this
      have e2 : loB (n + 1) = - upF (-n - 1) := by
        have := low_upF (n := -n - 1) (by omega) (by omega)
        rw [show -(-n - 1) = n + 1 by omega] at this
        exact this
      have := upF_step (q := -n - 1) (by omega) (by omega)
      rw [show -n - 1 + 1 = -n by omega] at this
      omega
/-- One times the sine of a latitude, rounded down, does not fall -/
theorem loB_mono {a b : Int} (h0 : -5400000 ≤ a) (h : a ≤ b) (h1 : b ≤ 5400000) : loB a ≤ loB b := by
  have key : ∀ k : Nat, a + k ≤ 5400000 → loB a ≤ loB (a + k) := by
    intro k
    induction k with
    | zero => intro _; simp
    | succ k ih =>
      intro hk
      have h2 := ih (by omega)
      have h3 := loB_step (n := a + k) (by omega) (by push_cast at hk; omega)
      rw [show a + k + 1 = a + ((k + 1 : Nat) : Int) by push_cast; omega] at h3
      omega
  have := key (b - a).toNat (by omega)
  rw [show a + ((b - a).toNat : Int) = b by omega] at this
  exact this
theorem hiB_lo (n : Int) : loB n ≤ hiB n ∧ hiB n ≤ loB n + 1 := by
  unfold loB hiB upF
  split <;> split <;> omega
end Go.Proofs.YtnbbemlchchmoaaGreat.Trig
namespace Go.Proofs.YtnbbemlchchmoaaGreat.Trig
theorem upF_mono {a b : Int} (h0 : 0 ≤ a) (h : a ≤ b) (h1 : b ≤ 5400000) : upF a ≤ upF b := by
  have key : ∀ k : Nat, a + k ≤ 5400000 → upF a ≤ upF (a + k) := by
    intro k
    induction k with
    | zero => intro _; simp
    | succ k ih =>
      intro hk
      have h2 := ih (by omega)
      have h3 := upF_step (q := a + k) (by omega) (by push_cast at hk; omega)
      rw [show a + k + 1 = a + ((k + 1 : Nat) : Int) by push_cast; omega] at h3
      omega
  have := key (b - a).toNat (by omega)
  rw [show a + ((b - a).toNat : Int) = b by omega] at this
  exact this
theorem half_sth {n : Int} (h0 : 0 ≤ n) (h1 : n ≤ 10800000) : sth n = false := by unfold sth; rw [decide_eq_false_iff_not]; omega
theorem half_qrt {n : Int} (h0 : 0 ≤ n) (h1 : n ≤ 10800000) : qrt n = if n > 5400000 then 10800000 - n else n := by unfold qrt; omega
theorem half_lo {n : Int} (h0 : 0 ≤ n) (h1 : n ≤ 10800000) : loB n = sF (qrt n) := by unfold loB; rw [half_sth h0 h1]; simp
theorem half_hi {n : Int} (h0 : 0 ≤ n) (h1 : n ≤ 10800000) : hiB n = upF (qrt n) := by unfold hiB; rw [half_sth h0 h1]; simp
theorem sF_mono {a b : Int} (h0 : 0 ≤ a) (h : a ≤ b) (h1 : b ≤ 5400000) : sF a ≤ sF b := by
  rw [← low_sF h0 (by omega), ← low_sF (by omega) h1]
  exact loB_mono (by omega) h h1
/-- between two angles of the upper half the sine is not below the lesser one of both -/
theorem half_min {lo n hi : Int} (h0 : 0 ≤ lo) (h1 : lo ≤ n) (h2 : n ≤ hi) (h3 : hi ≤ 10800000) : min (loB lo) (loB hi) ≤ loB n := by
  rw [half_lo h0 (by omega), half_lo (n := n) (by omega) (by omega), half_lo (n := hi) (by omega) h3]
  have e0 := half_qrt (n := lo) h0 (by omega)
  have e1 := half_qrt (n := n) (by omega) (by omega)
  have e2 := half_qrt (n := hi) (by omega) h3
  have b0 := qrt_bd lo
  have b1 := qrt_bd n
  have b2 := qrt_bd hi
  by_cases c : n > 5400000
  · have : sF (qrt hi) ≤ sF (qrt n) := sF_mono (by omega) (by omega) (by omega)
    omega
  · have : sF (qrt lo) ≤ sF (qrt n) := sF_mono (by omega) (by omega) (by omega)
    omega
/-- where no right angle lies between, it is not above the greater one -/
theorem half_max {lo n hi : Int} (h0 : 0 ≤ lo) (h1 : lo ≤ n) (h2 : n ≤ hi) (h3 : hi ≤ 10800000) (hm : ¬ (lo ≤ 5400000 ∧ 5400000 ≤ hi)) : hiB n ≤ max (hiB lo) (hiB hi) := by
  rw [half_hi h0 (by omega), half_hi (n := n) (by omega) (by omega), half_hi (n := hi) (by omega) h3]
  have e0 := half_qrt (n := lo) h0 (by omega)
  have e1 := half_qrt (n := n) (by omega) (by omega)
  have e2 := half_qrt (n := hi) (by omega) h3
  have b0 := qrt_bd lo
  have b1 := qrt_bd n
  have b2 := qrt_bd hi
  by_cases c : n > 5400000
  · have : upF (qrt n) ≤ upF (qrt lo) := upF_mono (by omega) (by omega) (by omega)
    omega
  · have : upF (qrt n) ≤ upF (qrt hi) := upF_mono (by omega) (by omega) (by omega)
    omega
theorem half_en {lo hi : Int} (h0 : 0 ≤ lo) (h1 : lo ≤ hi) (h3 : hi ≤ 10800000) : enLo lo hi = min (loB lo) (loB hi) ∧ enHi lo hi = if lo ≤ 5400000 ∧ 5400000 ≤ hi then 1073741824 else max (hiB lo) (hiB hi) := by
  unfold enLo enHi metB
  constructor
  · rw [if_neg]
    rw [decide_eq_true_eq]
    omega
  · by_cases h : lo ≤ 5400000 ∧ 5400000 ≤ hi
    · rw [if_pos h, if_pos]
      rw [decide_eq_true_eq]
      omega
    · rw [if_neg h, if_neg]
      rw [decide_eq_true_eq]
      omega
/-- the enclosure of the sine over an arc has that at each of its angles -/
theorem en_mid {lo n hi : Int} (h0 : 0 ≤ lo) (h1 : lo ≤ n) (h2 : n ≤ hi) (h3 : hi ≤ 10800000) : enLo lo hi ≤ loB n ∧ loB n ≤ enHi lo hi := by
  obtain ⟨e0, e1⟩ := half_en h0 (show lo ≤ hi by omega) h3
  rw [e0, e1]
  refine ⟨half_min h0 h1 h2 h3, ?_⟩
  split
  · exact (lo_bd n).2.1
  · rename_i hm
    have := half_max h0 h1 h2 h3 hm
    have := (hiB_lo n).1
    omega
/-- less of an arc: a narrower enclosure -/
theorem en_part {lo lo' hi' hi : Int} (h0 : 0 ≤ lo) (h1 : lo ≤ lo') (h2 : lo' ≤ hi') (h3 : hi' ≤ hi) (h4 : hi ≤ 10800000) : enLo lo hi ≤ enLo lo' hi' ∧ enHi lo' hi' ≤ enHi lo hi := by
  obtain ⟨e0, e1⟩ := half_en h0 (show lo ≤ hi by omega) h4
  obtain ⟨f0, f1⟩ := half_en (lo := lo') (hi := hi') (by omega) h2 (by omega)
  rw [e0, e1, f0, f1]
  have a1 := half_min h0 h1 (show lo' ≤ hi by omega) h4
  have a2 := half_min h0 (show lo ≤ hi' by omega) h3 h4
  refine ⟨by omega, ?_⟩
  have b1 := hi_le lo'
  have b2 := hi_le hi'
  by_cases c : lo ≤ 5400000 ∧ 5400000 ≤ hi
  · rw [if_pos c]
    split <;> omega
  · rw [if_neg c, if_neg (by omega)]
    have c1 := half_max h0 h1 (show lo' ≤ hi by omega) h4 c
    have c2 := half_max h0 (show lo ≤ hi' by omega) h3 h4 c
    omega
end Go.Proofs.YtnbbemlchchmoaaGreat.Trig
