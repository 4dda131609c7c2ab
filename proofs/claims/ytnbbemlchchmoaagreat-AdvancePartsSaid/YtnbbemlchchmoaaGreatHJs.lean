/- Regions that are moved: what the laws of layer 47 need. -/
import Derived.Test.YtnbbemlchchmoaaGreatHJr
import Derived.Test.YtnbbemlchchmoaaGreatHKn
import Derived.Test.YtnbbemlchchmoaaGreatHKg
set_option linter.unusedVariables false
set_option linter.unusedSimpArgs false
namespace Go.Proofs.YtnbbemlchchmoaaGreat
open Canon
/-! ### quotients by less of a range -/
theorem div_anti {n p C : Int} (hn : 0 ≤ n) (hp : 0 < p) (h : p ≤ C) : n / C ≤ n / p := by
  refine Int.le_ediv_of_mul_le hp ?_
  have h1 := Int.ediv_mul_le n (show C ≠ 0 by omega)
  have h2 : 0 ≤ n / C := Int.ediv_nonneg hn (by omega)
  have h3 := Int.mul_le_mul_of_nonneg_left h h2
  omega
theorem div_mono_neg {n p C : Int} (hn : n ≤ 0) (hp : 0 < p) (h : p ≤ C) : n / p ≤ n / C := by
  refine Int.le_ediv_of_mul_le (by omega) ?_
  have h1 := Int.ediv_mul_le n (show p ≠ 0 by omega)
  have h2 : n / p ≤ 0 := by
    have := Int.ediv_le_ediv hp hn
    simpa using this
  have h3 := Int.mul_le_mul_of_nonpos_left h2 h
  omega
/-- the quotient by a number of a range lies between those by its ends -/
theorem div_mid {n p C q : Int} (hp : 0 < p) (h1 : p ≤ C) (h2 : C ≤ q) : min (n / p) (n / q) ≤ n / C ∧ n / C ≤ max (n / p) (n / q) := by
  by_cases hn : 0 ≤ n
  · have := div_anti hn hp h1
    have := div_anti hn (show 0 < C by omega) h2
    omega
  · have := div_mono_neg (show n ≤ 0 by omega) hp h1
    have := div_mono_neg (show n ≤ 0 by omega) (show 0 < C by omega) h2
    omega
theorem div_up (n : Int) {C : Int} (hC : 0 < C) : n / C ≤ -(-n / C) := by
  have h1 := Int.ediv_mul_le n (show C ≠ 0 by omega)
  have h2 := Int.ediv_mul_le (-n) (show C ≠ 0 by omega)
  have h4 : (n / C + -n / C) * C ≤ 0 := by rw [Int.add_mul]; omega
  have h5 : n / C + -n / C ≤ 0 := by
    refine Int.not_lt.1 fun h => ?_
    have := Int.mul_pos h hC
    omega
  omega
/-- a whole number between the quotients of all numbers of a range, and its opposite for the opposite -/
theorem qt_mid {n p C q : Int} (hp : 0 < p) (h1 : p ≤ C) (h2 : C ≤ q) : (qtA n p q ≤ 1073741824 * n / C ∧ 1073741824 * n / C ≤ qtB n p q) ∧ (qtA (-n) p q ≤ -(1073741824 * n / C) ∧ -(1073741824 * n / C) ≤ qtB (-n) p q) := by
  unfold qtA qtB
  rw [show 1073741824 * -n = -(1073741824 * n) by omega, Int.neg_neg]
  generalize 1073741824 * n = m
  have a := div_mid (n := m) hp h1 h2
  have b := div_mid (n := -m) hp h1 h2
  have c := div_up m (C := C) (by omega)
  generalize m / p = x0 at *
  generalize m / q = x1 at *
  generalize m / C = x2 at *
  generalize -m / p = y0 at *
  generalize -m / q = y1 at *
  generalize -m / C = y2 at *
  omega
/-- less of a range: closer quotients -/
theorem qt_part {n p p' q' q : Int} (hp : 0 < p) (h1 : p ≤ p') (h2 : p' ≤ q') (h3 : q' ≤ q) : qtA n p q ≤ qtA n p' q' ∧ qtB n p' q' ≤ qtB n p q := by
  unfold qtA qtB
  generalize 1073741824 * n = m
  have a := div_mid (n := m) hp h1 (show p' ≤ q by omega)
  have b := div_mid (n := m) hp (show p ≤ q' by omega) h3
  have c := div_mid (n := -m) hp h1 (show p' ≤ q by omega)
  have d := div_mid (n := -m) hp (show p ≤ q' by omega) h3
  generalize m / p = x0 at *
  generalize m / q = x1 at *
  generalize m / p' = x2 at *
  generalize m / q' = x3 at *
  generalize -m / p = y0 at *
  generalize -m / q = y1 at *
  generalize -m / p' = y2 at *
  generalize -m / q' = y3 at *
  omega
theorem qt_up {m n p q : Int} (hp : 0 < p) (hq : 0 < q) (h : m ≤ n) : qtA m p q ≤ qtA n p q ∧ qtB m p q ≤ qtB n p q := by
  unfold qtA qtB
  have hm : 1073741824 * m ≤ 1073741824 * n := by omega
  generalize 1073741824 * m = m at *
  generalize 1073741824 * n = n at *
  have a := Int.ediv_le_ediv hp hm
  have b := Int.ediv_le_ediv hq hm
  have c := Int.ediv_le_ediv hp (show -n ≤ -m by omega)
  have d := Int.ediv_le_ediv hq (show -n ≤ -m by omega)
  generalize m / p = x0 at *
  generalize m / q = x1 at *
  generalize n / p = x2 at *
  generalize n / q = x3 at *
  generalize -m / p = y0 at *
  generalize -m / q = y1 at *
  generalize -n / p = y2 at *
  generalize -n / q = y3 at *
  omega
theorem dl_part {a a' b' b p p' q' q : Int} (hp : 0 < p) (h1 : p ≤ p') (h2 : p' ≤ q') (h3 : q' ≤ q) (ha : a ≤ a') (hab : a' ≤ b') (hb : b' ≤ b) : dlA a b p q ≤ dlA a' b' p' q' ∧ dlB a' b' p' q' ≤ dlB a b p q ∧ (dlG a b p q = true → dlG a' b' p' q' = true) := by
  have x1 := qt_part (n := a') hp h1 h2 h3
  have x2 := qt_part (n := b') hp h1 h2 h3
  have y1 := qt_up (p := p) (q := q) hp (by omega) ha
  have y2 := qt_up (p := p) (q := q) hp (by omega) hb
  have y3 := qt_up (p := p) (q := q) hp (by omega) hab
  have z1 := qt_mid (n := a') (p := p') (C := p') (q := q') (by omega) (by omega) h2
  have z2 := qt_mid (n := b') (p := p') (C := p') (q := q') (by omega) (by omega) h2
  unfold dlA dlB dlG
  refine ⟨by omega, by omega, fun h => ?_⟩
  rw [Bool.and_eq_true, qtG_iff, qtG_iff] at h ⊢
  omega
/-! ### longitudes -/
theorem lon_mod {a : Sp} {x y : Int} (h : (x - y) % 21600000 = 0) (hx : lonP a x) : lonP a y := by
  unfold lonP at *
  omega
theorem lon_in {lo hi t : Int} (h1 : lo ≤ t) (h2 : t ≤ hi) : lonP (lonA lo hi, lonB lo hi) t := by
  unfold lonP lonA lonB sgT
  by_cases h : 21600000 ≤ hi - lo
  · rw [if_pos h, if_pos h]
    simp only []
    omega
  · rw [if_neg h, if_neg h]
    simp only []
    omega
theorem lon_part {lo lo' hi' hi : Int} (h1 : lo ≤ lo') (h2 : lo' ≤ hi') (h3 : hi' ≤ hi) : insA (lonA lo' hi', lonB lo' hi') (lonA lo hi, lonB lo hi) = true := by
  unfold insA
  simp only [Bool.and_eq_true, Bool.or_eq_true, Bool.not_eq_true', decide_eq_true_eq, decide_eq_false_iff_not]
  have s0 : (sgT lo - lo) % 21600000 = 0 ∧ -10800000 ≤ sgT lo ∧ sgT lo < 10800000 := by unfold sgT; omega
  have s1 : (sgT lo' - lo') % 21600000 = 0 ∧ -10800000 ≤ sgT lo' ∧ sgT lo' < 10800000 := by unfold sgT; omega
  unfold lonA lonB
  by_cases h : 21600000 ≤ hi - lo
  · rw [if_pos h, if_pos h]
    exact .inl ⟨rfl, rfl⟩
  · rw [if_neg h, if_neg h, if_neg (show ¬ 21600000 ≤ hi' - lo' by omega), if_neg (show ¬ 21600000 ≤ hi' - lo' by omega)]
    generalize sgT lo = s at *
    generalize sgT lo' = s' at *
    right
    constructor <;> omega
/-! ### movements -/
theorem mv_way {q : Bx} {a b : Int} (hq : VP q) (hab : a ≤ b) (hm : mvL q.1 q.2.1 a b = true) : 0 ≤ min q.1 (q.1 + a) + 5400000 ∧ max q.2.1 (q.2.1 + b) + 5400000 ≤ 10800000 ∧ min q.1 (q.1 + a) ≤ max q.2.1 (q.2.1 + b) := by
  unfold mvL at hm
  rw [decide_eq_true_eq] at hm
  have := hq.l1
  have := hq.l2
  have := hq.l3
  omega
/-- a point that is moved -/
theorem mv_pt {q : Bx} {a b x y v u m D : Int} (h : mvErr q a b x y = 0) (hp : inX q v u) (ham : a ≤ m) (hmb : m ≤ b) (hD : mvDA q a b x y ≤ D) (hD2 : D ≤ mvDB q a b x y) : inX (mvBox q a b x y) (v + m) (u + D) := by
  unfold mvBox
  rw [if_pos h]
  obtain ⟨h1, h2, h3⟩ := hp
  generalize mvDA q a b x y = A at *
  generalize mvDB q a b x y = B at *
  unfold lonP at h3
  simp only [] at h3
  refine ⟨by simp only []; omega, by simp only []; omega, ?_⟩
  simp only []
  obtain ⟨t, ht, ht1, ht2⟩ : ∃ t, (u - t) % 21600000 = 0 ∧ q.2.2.1 ≤ t ∧ t ≤ q.2.2.2 := ⟨q.2.2.1 + (u - q.2.2.1) % 21600000, by omega, by omega, by omega⟩
  exact lon_mod (x := t + D) (by omega) (lon_in (by omega) (by omega))
/-- a difference of longitude that serves for a movement at any latitude on its way, and back -/
theorem mv_dlon {q : Bx} {a b x y v n : Int} (hq : VP q) (hab : a ≤ b) (hxy : x ≤ n) (hyn : n ≤ y) (h : mvErr q a b x y = 0) (h1 : min q.1 (q.1 + a) ≤ v) (h2 : v ≤ max q.2.1 (q.2.1 + b)) :
    mvDA q a b x y ≤ 1073741824 * n / Trig.loB (v + 5400000) ∧ 1073741824 * n / Trig.loB (v + 5400000) ≤ mvDB q a b x y := by
  obtain ⟨e1, e2, e3⟩ := mvErr_zero h
  have hw := mv_way hq hab e1
  have hm := Trig.en_mid (n := v + 5400000) hw.1 (by omega) (show v + 5400000 ≤ max q.2.1 (q.2.1 + b) + 5400000 by omega) hw.2.1
  unfold mvDA mvDB
  generalize Trig.enLo (min q.1 (q.1 + a) + 5400000) (max q.2.1 (q.2.1 + b) + 5400000) = p at *
  generalize Trig.enHi (min q.1 (q.1 + a) + 5400000) (max q.2.1 (q.2.1 + b) + 5400000) = r at *
  generalize Trig.loB (v + 5400000) = C at *
  have k := (qt_mid (n := n) e2 hm.1 hm.2).1
  have l := dl_part (a := x) (a' := n) (b' := n) (b := y) e2 (Int.le_refl p) (show p ≤ r by omega) (Int.le_refl r) hxy (Int.le_refl n) hyn
  unfold dlA dlB at *
  generalize 1073741824 * n / C = z at *
  omega
theorem mv_dlon_back {q : Bx} {a b x y v n : Int} (hq : VP q) (hab : a ≤ b) (hxy : x ≤ -n) (hyn : -n ≤ y) (h : mvErr q a b x y = 0) (h1 : min q.1 (q.1 + a) ≤ v) (h2 : v ≤ max q.2.1 (q.2.1 + b)) :
    mvDA q a b x y ≤ -(1073741824 * n / Trig.loB (v + 5400000)) ∧ -(1073741824 * n / Trig.loB (v + 5400000)) ≤ mvDB q a b x y := by
  obtain ⟨e1, e2, e3⟩ := mvErr_zero h
  have hw := mv_way hq hab e1
  have hm := Trig.en_mid (n := v + 5400000) hw.1 (by omega) (show v + 5400000 ≤ max q.2.1 (q.2.1 + b) + 5400000 by omega) hw.2.1
  unfold mvDA mvDB
  generalize Trig.enLo (min q.1 (q.1 + a) + 5400000) (max q.2.1 (q.2.1 + b) + 5400000) = p at *
  generalize Trig.enHi (min q.1 (q.1 + a) + 5400000) (max q.2.1 (q.2.1 + b) + 5400000) = r at *
  generalize Trig.loB (v + 5400000) = C at *
  have k := (qt_mid (n := n) e2 hm.1 hm.2).2
  have l := dl_part (a := x) (a' := -n) (b' := -n) (b := y) e2 (Int.le_refl p) (show p ≤ r by omega) (Int.le_refl r) hxy (Int.le_refl _) hyn
  unfold dlA dlB at *
  generalize 1073741824 * n / C = z at *
  omega
/-- the point of a box that is moved there and back -/
theorem mv_back {q d : Bx} {a b x y v u : Int} (hq : VP q) (hd : VP d) (hab : a ≤ b) (hxy : x ≤ y) (h : mvErr q a b x y = 0) (h' : mvErr d (-b) (-a) (-y) (-x) = 0) (hp : inX q v u) :
    inX (mvBox q a b x y) (v + a) (u + 1073741824 * x / Trig.loB (v + 5400000)) ∧ (inX d (v + a) (u + 1073741824 * x / Trig.loB (v + 5400000)) → inX (mvBox d (-b) (-a) (-y) (-x)) v u) := by
  have hp' := hp
  obtain ⟨p1, p2, p3⟩ := hp'
  have k := mv_dlon (v := v) (n := x) hq hab (Int.le_refl x) hxy h (by omega) (by omega)
  refine ⟨mv_pt h hp (Int.le_refl a) hab k.1 k.2, fun hz => ?_⟩
  have hz' := hz
  obtain ⟨z1, z2, z3⟩ := hz'
  have k2 := mv_dlon_back (q := d) (a := -b) (b := -a) (x := -y) (y := -x) (v := v) (n := x) hd (by omega) (by omega) (Int.le_refl _) h' (by omega) (by omega)
  have e := mv_pt (m := -a) h' hz (by omega) (Int.le_refl _) k2.1 k2.2
  rw [show v + a + -a = v by omega] at e
  generalize 1073741824 * x / Trig.loB (v + 5400000) = D at *
  rw [show u + D + -D = u by omega] at e
  exact e
/-- a part of a movement -/
theorem mv_part {q : Bx} {a a' b' b x x' y' y : Int} (hq : VP q) (hl : q.2.2.1 ≤ q.2.2.2) (h1 : a ≤ a') (h2 : a' ≤ b') (h3 : b' ≤ b) (h4 : x ≤ x') (h5 : x' ≤ y') (h6 : y' ≤ y) (h : mvErr q a b x y = 0) : mvErr q a' b' x' y' = 0 ∧ insX (mvBox q a' b' x' y') (mvBox q a b x y) = true := by
  obtain ⟨e1, e2, e3⟩ := mvErr_zero h
  have hw := mv_way hq (show a ≤ b by omega) e1
  have e1' : mvL q.1 q.2.1 a' b' = true := by
    unfold mvL at e1 ⊢
    rw [decide_eq_true_eq] at e1 ⊢
    omega
  have hw' := mv_way hq h2 e1'
  have hp := Trig.en_part (lo' := min q.1 (q.1 + a') + 5400000) (hi' := max q.2.1 (q.2.1 + b') + 5400000) hw.1 (show min q.1 (q.1 + a) + 5400000 ≤ min q.1 (q.1 + a') + 5400000 by omega) (by omega) (show max q.2.1 (q.2.1 + b') + 5400000 ≤ max q.2.1 (q.2.1 + b) + 5400000 by omega) hw.2.1
  have hm := Trig.en_mid (n := q.1 + 5400000) hw'.1 (by omega) (show q.1 + 5400000 ≤ max q.2.1 (q.2.1 + b') + 5400000 by have := hq.l1; omega) hw'.2.1
  have hle : Trig.enLo (min q.1 (q.1 + a') + 5400000) (max q.2.1 (q.2.1 + b') + 5400000) ≤ Trig.enHi (min q.1 (q.1 + a') + 5400000) (max q.2.1 (q.2.1 + b') + 5400000) := Int.le_trans hm.1 hm.2
  obtain ⟨d1, d2, d3⟩ := dl_part e2 hp.1 hle hp.2 h4 h5 h6
  have he : mvErr q a' b' x' y' = 0 := by
    unfold mvErr
    rw [if_pos e1', if_neg (Int.not_le.2 (Int.lt_of_lt_of_le e2 hp.1)), if_pos (d3 e3)]
  refine ⟨he, ?_⟩
  have hD1 : mvDA q a b x y ≤ mvDA q a' b' x' y' := d1
  have hD2 : mvDB q a' b' x' y' ≤ mvDB q a b x y := d2
  have hD3 : mvDA q a' b' x' y' ≤ mvDB q a' b' x' y' := by
    have := mv_dlon (v := q.1) (n := x') hq h2 (Int.le_refl x') h5 he (by omega) (by have := hq.l1; omega)
    omega
  unfold mvBox
  rw [if_pos he, if_pos h]
  unfold insX
  rw [Bool.and_eq_true, decide_eq_true_eq]
  exact ⟨by simp only []; omega, lon_part (by omega) (by omega) (by omega)⟩
/-- a box that is not moved -/
theorem mv_none {q : Bx} {v u : Int} (h : mvErr q 0 0 0 0 = 0) (hp : inX q v u) : inX (mvBox q 0 0 0 0) v u := by
  have hA : mvDA q 0 0 0 0 = 0 := by unfold mvDA dlA qtA; simp
  have hB : mvDB q 0 0 0 0 = 0 := by unfold mvDB dlB qtB; simp
  have := mv_pt (m := 0) (D := 0) h hp (Int.le_refl _) (Int.le_refl _) (by omega) (by omega)
  simpa using this
end Go.Proofs.YtnbbemlchchmoaaGreat
namespace Go.Proofs.YtnbbemlchchmoaaGreat
open Canon
/-! ### regions that are moved -/
theorem reg_ok {a b x y lev most : Int} {L : List Cl} (h : RegOk a b x y lev most L 0) : ∀ c ∈ L, okM a b x y lev most c := by
  obtain ⟨k, hk, h1, h2⟩ := h
  rcases h2 with ⟨rfl, -⟩ | ⟨-, h3, -⟩
  · intro c hc
    obtain ⟨i, hi, rfl⟩ := List.getElem_of_mem hc
    have := h1 i hi
    simpa [gt, hi] using this
  · exact absurd rfl h3
theorem reg_cov {a b x y lev : Int} {L : List Cl} (q : Nat) : covL (regX a b x y lev L L.length) q ↔ ∃ c ∈ L, covL (arnM a b x y lev c) q := by
  unfold regX
  rw [List.take_length]
  constructor
  · rintro ⟨z, hz, h⟩
    obtain ⟨c, hc, hz⟩ := List.mem_flatMap.1 hz
    exact ⟨c, hc, z, hz, h⟩
  · rintro ⟨c, hc, z, hz, h⟩
    exact ⟨z, List.mem_flatMap.2 ⟨c, hc, hz⟩, h⟩
theorem regV_zero {a b x y lev : Int} {L : List Cl} : regV a b x y lev L 0 = canonC (covL (regX a b x y lev L L.length)) := by unfold regV; rw [if_pos rfl]
/-- a point of a cell, moved, lies in a cell of the region that is moved -/
theorem reg_pt {a b x y lev most : Int} {L : List Cl} (hL : AllV L) (hab : a ≤ b) (h0 : 0 ≤ lev) (h16 : lev ≤ 16) (hR : RegOk a b x y lev most L 0) {c : Cl} (hc : c ∈ L) {v u : Int} (hp : inX (mvBox (bxI c) a b x y) v u) {q : Nat} (hq : q < 2 * 4 ^ 16) (hf : inX (bxI (cellB (0, q))) v u) :
    covL (regX a b x y lev L L.length) q := by
  have hv := hL c hc
  have hfc := bx_facts hv
  exact (reg_cov q).2 ⟨c, hc, arn_pt (mvBox_vp (bxI_vp hv) hfc.2.2.2.2.1 hab (reg_ok hR c hc).1) h0 h16 hq hp hf⟩
theorem low_in {x : Cl} (hx : Vl x) : inX (bxI x) (bxI x).1 (bxI x).2.2.1 := by
  have hf := bx_facts hx
  refine ⟨Int.le_refl _, hf.2.1, ?_⟩
  unfold lonP
  simp only [Int.sub_self, Int.zero_emod]
  have := hf.2.2.2.2.1
  omega
/-- a region that is not moved covers itself -/
theorem reg_none {lev most : Int} {L : List Cl} (hL : AllV L) (h0 : 0 ≤ lev) (h16 : lev ≤ 16) (hR : RegOk 0 0 0 0 lev most L 0) : ∀ q, covL L q → covL (regX 0 0 0 0 lev L L.length) q := by
  intro q hq
  have hq2 := cov_v hL hq
  obtain ⟨c, hc, h⟩ := hq
  have hv := hL c hc
  have hfin := low_in (fin_vl hq2)
  have hfc := bx_facts hv
  exact reg_pt hL (Int.le_refl _) h0 h16 hR hc (mv_none (reg_ok hR c hc).1 (nst_pt (fin_in hv ((cov_one c q).2 h)) hfc.2.2.2.2.2.2.1 hfin)) hq2 hfin
/-- what was moved is found back -/
theorem reg_back {a b x y lev most : Int} {L : List Cl} (hL : AllV L) (hab : a ≤ b) (hxy : x ≤ y) (h0 : 0 ≤ lev) (h16 : lev ≤ 16) (hR : RegOk a b x y lev most L 0)
    (hB : RegOk (-b) (-a) (-y) (-x) lev most (regV a b x y lev L 0) 0) : ∀ q, covL L q → covL (regX (-b) (-a) (-y) (-x) lev (regV a b x y lev L 0) (regV a b x y lev L 0).length) q := by
  intro q hq
  have hq2 := cov_v hL hq
  obtain ⟨c, hc, h⟩ := hq
  have hv := hL c hc
  have hfin := low_in (fin_vl hq2)
  have hfc := bx_facts hv
  have hin := nst_pt (fin_in hv ((cov_one c q).2 h)) hfc.2.2.2.2.2.2.1 hfin
  have hxv := regX_v (a := a) (b := b) (x := x) (y := y) h0 h16 L L.length
  generalize hvv : (bxI (cellB (0, q))).1 = v at *
  generalize huu : (bxI (cellB (0, q))).2.2.1 = u at *
  have hok := (reg_ok hR c hc).1
  -- the point that is reached, and a number of it
  have hmvp := mvBox_vp (bxI_vp hv) hfc.2.2.2.2.1 hab hok
  have key := fun (d : Cl) (hd : Vl d) (he : mvErr (bxI d) (-b) (-a) (-y) (-x) = 0) => mv_back (bxI_vp hv) (bxI_vp hd) hab hxy hok he hin
  have hgo : inX (mvBox (bxI c) a b x y) (v + a) (u + 1073741824 * x / Trig.loB (v + 5400000)) := by
    have k := mv_dlon (v := v) (n := x) (bxI_vp hv) hab (Int.le_refl x) hxy hok (by have := hin.1; omega) (by have := hin.2.1; omega)
    exact mv_pt hok hin (Int.le_refl a) hab k.1 k.2
  generalize 1073741824 * x / Trig.loB (v + 5400000) = D at *
  obtain ⟨q', hq', hf'⟩ := pt_fin_ex (y := v + a) (x := u + D) (by have := hgo.1; have := hmvp.l2; omega) (by have := hgo.2.1; have := hmvp.l3; omega)
  have hcov : covL (regV a b x y lev L 0) q' := by
    rw [regV_zero, can_cov hxv]
    exact reg_pt hL hab h0 h16 hR hc hgo hq' hf'
  obtain ⟨d, hd, hdq⟩ := hcov
  have hdv : AllV (regV a b x y lev L 0) := by rw [regV_zero]; exact can_v _ hxv
  have hdf := bx_facts (hdv d hd)
  have hdin : inX (bxI d) (v + a) (u + D) := nst_pt (fin_in (hdv d hd) ((cov_one d q').2 hdq)) hdf.2.2.2.2.2.2.1 hf'
  exact reg_pt hdv (by omega) h0 h16 hB hd ((key d (hdv d hd) (reg_ok hB d hd).1).2 hdin) hq2 hfin
/-- less leads to less -/
theorem reg_part {a a' b' b x x' y' y lev most : Int} {L : List Cl} (hL : AllV L) (h1 : a ≤ a') (h2 : a' ≤ b') (h3 : b' ≤ b) (h4 : x ≤ x') (h5 : x' ≤ y') (h6 : y' ≤ y) (h0 : 0 ≤ lev) (h16 : lev ≤ 16) (hR : RegOk a b x y lev most L 0) {c : Cl} (hc : c ∈ L) :
    mvErr (bxI c) a b x y = 0 ∧ mvErr (bxI c) a' b' x' y' = 0 ∧ insX (mvBox (bxI c) a' b' x' y') (mvBox (bxI c) a b x y) = true ∧ RegOk a' b' x' y' lev most [c] 0 ∧ ∀ q, covL (regX a' b' x' y' lev [c] 1) q → covL (regX a b x y lev L L.length) q := by
  have hv := hL c hc
  have hfc := bx_facts hv
  have hok := reg_ok hR c hc
  obtain ⟨p1, p2⟩ := mv_part (bxI_vp hv) hfc.2.2.2.2.1 h1 h2 h3 h4 h5 h6 hok.1
  have v1 := mvBox_vp (bxI_vp hv) hfc.2.2.2.2.1 h2 p1
  have v2 := mvBox_vp (bxI_vp hv) hfc.2.2.2.2.1 (show a ≤ b by omega) hok.1
  obtain ⟨i1, i2⟩ := arn_ins v1 v2 p2 h0 h16
  refine ⟨hok.1, p1, p2, ⟨1, by simp, fun i hi => ?_, .inl ⟨rfl, rfl⟩⟩, fun q hq => ?_⟩
  · obtain rfl : i = 0 := by omega
    refine ⟨p1, ?_⟩
    show ((arnA (mtP (mvBox (bxI c) a' b' x' y')) lev).length : Int) ≤ most
    exact Int.le_trans (Int.ofNat_le.2 i1) hok.2
  · have : covL (arnM a' b' x' y' lev c) q := by
      obtain ⟨z, hz, h⟩ := hq
      refine ⟨z, ?_, h⟩
      simpa [regX] using hz
    exact (reg_cov q).2 ⟨c, hc, i2 q this⟩
end Go.Proofs.YtnbbemlchchmoaaGreat
namespace Go.Proofs.YtnbbemlchchmoaaGreat
open Go.RowKit
theorem ins_reg_of {L X : List Cl} (hv : vrB L = true) (hX : AllV X) (h : ∀ q, covL L q → covL X q) : insL L (canonC (covL X)) = true := by
  obtain ⟨-, h2, h3⟩ := (vrB_iff L).1 hv
  have e := (ins_can h2 hX).2 h
  rw [h3] at e
  exact e
theorem regV_vr {a b x y lev : Int} {L : List Cl} (h0 : 0 ≤ lev) (h16 : lev ≤ 16) (hR : RegOk a b x y lev 60 L 0) (hl : L.length ≤ 60) : vrB (regV a b x y lev L 0) = true := by
  rw [regV_zero]
  refine can_vr (regX_v h0 h16 L _) ?_
  have hok := reg_ok hR
  have := regX_len (a := a) (b := b) (x := x) (y := y) (lev := lev) (most := 60) L (by omega) L.length (Nat.le_refl _) (fun i hi => hok _ (by simp [gt, hi]))
  omega
/-- what the reference's Region says where there is no error -/
theorem rgd_zero {L : List Cl} {a b x y lev : Int} {M : List Cl} (hd : RgD L a b x y lev M 0) : gvE L a b x y lev = 0 ∧ RegOk a b x y lev 60 L 0 ∧ M = regV a b x y lev L 0 := by
  rcases hd with ⟨h1, h2, -⟩ | ⟨h1, h2 | ⟨h2, h3⟩⟩
  · exact absurd h2.symm h1
  · exact absurd h2 (by decide)
  · exact ⟨h1, h2, h3⟩
theorem back_ins {L M M' : List Cl} {a b x y lev : Int} (hv : vrB L = true) (hab : a ≤ b) (hxy : x ≤ y) (h0 : 0 ≤ lev) (h16 : lev ≤ 16) (hl : L.length ≤ 60) (hm : M.length ≤ 60) (hd : RgD L a b x y lev M 0) (hd' : RgD M (-b) (-a) (-y) (-x) lev M' 0) :
    vrB M = true ∧ vrB M' = true ∧ insL L M' = true := by
  obtain ⟨-, r1, rfl⟩ := rgd_zero hd
  obtain ⟨-, r2, rfl⟩ := rgd_zero hd'
  refine ⟨regV_vr h0 h16 r1 hl, regV_vr h0 h16 r2 hm, ?_⟩
  have := reg_back ((vrB_iff L).1 hv).2.1 hab hxy h0 h16 r1 r2
  rw [regV_zero (a := -b)]
  exact ins_reg_of hv (regX_v h0 h16 _ _) this
theorem none_ins {L M : List Cl} {lev : Int} (hv : vrB L = true) (h0 : 0 ≤ lev) (h16 : lev ≤ 16) (hl : L.length ≤ 60) (hd : RgD L 0 0 0 0 lev M 0) : vrB M = true ∧ insL L M = true := by
  obtain ⟨-, r1, rfl⟩ := rgd_zero hd
  refine ⟨regV_vr h0 h16 r1 hl, ?_⟩
  rw [regV_zero]
  exact ins_reg_of hv (regX_v h0 h16 _ _) (reg_none ((vrB_iff L).1 hv).2.1 h0 h16 r1)
end Go.Proofs.YtnbbemlchchmoaaGreat
