/- The walks of the reference's Side, and of Agrees and agrees of layer 39 at valid circles and cells. -/
import Derived.Deep.DeepCutAuto
import Derived.Test.YtifdgdgfmjfbdaaGreatHJc
import Derived.Test.YtifdgdgfmjfbdaaGreatHAm
import Derived.Test.YtifdgdgfmjfbdaaGreatHWb
import Derived.Test.YtifdgdgfmjfbdaaGreatHNa
set_option linter.unusedVariables false
set_option linter.unusedSimpArgs false
namespace Go.Proofs.YtifdgdgfmjfbdaaGreat
open Canon
/-! ### what is put together: the last four cells by their parent -/
def parC (x : Cl) : Cl := (x.1 - 1, x.2.1 / 2, x.2.2 / 2)
/-- the last four are the children of one cell -/
def four4 (L : List Cl) : Bool := decide (4 ≤ L.length) && (decide (0 < (gt L (L.length - 4)).1) && decide (kidsC (parC (gt L (L.length - 4))) = L.drop (L.length - 4)))
def mg1 (L : List Cl) : List Cl := L.take (L.length - 4) ++ [parC (gt L (L.length - 4))]
/-- put together as often as it goes -/
def mgF : Nat → List Cl → List Cl
  | 0, L => L
  | f + 1, L => if four4 L = true then mgF f (mg1 L) else L
theorem par_kids {p : Cl} : ∀ x ∈ kidsC p, parC x = p := by
  obtain ⟨l, r, c⟩ := p
  intro x hx
  simp only [kidsC, kids, List.mem_cons, List.not_mem_nil, or_false] at hx
  rcases hx with rfl | rfl | rfl | rfl <;> (simp only [parC, Prod.mk.injEq]; omega)
theorem par_vl {x : Cl} (hx : Vl x) (h : 0 < x.1) : Vl (parC x) := by
  obtain ⟨a0, a1, a2, a3, a4, a5⟩ := hx
  have e : x.1.toNat = (x.1 - 1).toNat + 1 := by omega
  rw [e, Nat.pow_succ] at a3 a5
  unfold parC
  constructor <;> simp only [] <;> omega
theorem drop_four (L : List Cl) (h : 4 ≤ L.length) : L.drop (L.length - 4) = [gt L (L.length - 4), gt L (L.length - 4 + 1), gt L (L.length - 4 + 2), gt L (L.length - 4 + 3)] := by
  have e : ∀ j, j < L.length → L.drop j = gt L j :: L.drop (j + 1) := fun j hj => by
    rw [List.drop_eq_getElem_cons hj]
    simp [gt, hj]
  rw [e _ (by omega), e _ (by omega), e _ (by omega), e _ (by omega), List.drop_of_length_le (by omega)]
theorem four4_iff {L : List Cl} (hL : AllV L) : four4 L = true ↔ 4 ≤ L.length ∧ ∃ h n, h < 16 ∧ (L.drop (L.length - 4)).map blkOf = kidsB h n := by
  unfold four4
  rw [Bool.and_eq_true, Bool.and_eq_true, decide_eq_true_eq, decide_eq_true_eq, decide_eq_true_eq]
  constructor
  · rintro ⟨h4, h0, hk⟩
    refine ⟨h4, ?_⟩
    have hx := gt_v hL (i := L.length - 4) (by omega)
    generalize gt L (L.length - 4) = x at h0 hk hx
    have hp := par_vl hx h0
    have hl : (parC x).1 < 16 := by have := hx.l1; simp only [parC]; omega
    rw [← hk, kids_blk hp hl]
    refine ⟨_, _, ?_, rfl⟩
    have : (blkOf (parC x)).1 = 16 - (parC x).1.toNat := rfl
    have h0' := hp.l0
    omega
  · rintro ⟨h4, h, n, hh, he⟩
    refine ⟨h4, ?_⟩
    have hd := drop_four L h4
    have hv : AllV (L.drop (L.length - 4)) := fun x hx => hL x (List.mem_of_mem_drop hx)
    have hu : Vl (gt L (L.length - 4 + 3)) := gt_v hL (by omega)
    have hlt := (blk_lt _ hu).2
    have hux : blkOf (gt L (L.length - 4 + 3)) = (h, 4 * n + 3) := by
      rw [hd] at he
      simp only [List.map_cons, List.map_nil, kidsB, List.cons.injEq, and_true] at he
      exact he.2.2.2
    rw [hux] at hlt
    simp only [] at hlt
    have hpv : Vl (cellB (h + 1, n)) := by
      refine cellB_vl _ (by simp only []; omega) ?_
      simp only []
      rw [show 16 - h = (16 - (h + 1)) + 1 by omega, Nat.pow_succ] at hlt
      omega
    have hb := blkOf_cellB (h + 1, n) (by simp only []; omega)
    have hl : (cellB (h + 1, n)).1 < 16 := by
      simp only [cellB, cellN]
      omega
    have hk := kids_blk hpv hl
    rw [hb] at hk
    simp only [Nat.add_sub_cancel] at hk
    have e : L.drop (L.length - 4) = kidsC (cellB (h + 1, n)) := by
      rw [← map_blk_back hv, ← map_blk_back (kids_vl hpv hl), he, hk]
    have hx : gt L (L.length - 4) ∈ kidsC (cellB (h + 1, n)) := by rw [← e, hd]; exact List.mem_cons_self ..
    rw [par_kids _ hx, e]
    refine ⟨?_, rfl⟩
    have hp0 := hpv.l0
    generalize cellB (h + 1, n) = p at hx hp0
    obtain ⟨pl, pr, pc⟩ := p
    simp only [kidsC, kids, List.mem_cons, List.not_mem_nil, or_false] at hx
    simp only [] at hp0
    rcases hx with hx | hx | hx | hx <;> (rw [hx]; simp only []; omega)
/-- a list in order, with no four children of one cell -/
def Td (L : List Cl) : Prop := AllV L ∧ (L.map blkOf).Pairwise before2 ∧ NoFour (L.map blkOf)
theorem td_iff {L : List Cl} (hL : AllV L) : Td L ↔ canonC (covL L) = L := by
  rw [tidy_iff hL, pairs_iff hL, fours_iff hL]
  exact ⟨fun h => h.2, fun h => ⟨hL, h⟩⟩
theorem td_take {L : List Cl} (h : Td L) (k : Nat) : Td (L.take k) := by
  obtain ⟨h1, h2, h3⟩ := h
  refine ⟨fun x hx => h1 x (List.mem_of_mem_take hx), ?_, ?_⟩
  · rw [List.map_take]; exact h2.sublist (List.take_sublist _ _)
  · intro hh n pre suf e
    refine h3 hh n pre (suf ++ (L.map blkOf).drop k) ?_
    rw [List.map_take] at e
    have := (List.take_append_drop k (L.map blkOf)).symm
    rw [e] at this
    simpa using this
theorem cov_appL (A B : List Cl) (q : Nat) : covL (A ++ B) q ↔ (covL A q ∨ covL B q) := by
  unfold covL
  simp only [List.mem_append]
  constructor
  · rintro ⟨x, h | h, hq⟩
    · exact .inl ⟨x, h, hq⟩
    · exact .inr ⟨x, h, hq⟩
  · rintro (⟨x, h, hq⟩ | ⟨x, h, hq⟩)
    · exact ⟨x, .inl h, hq⟩
    · exact ⟨x, .inr h, hq⟩
theorem cov_one (x : Cl) (q : Nat) : covL [x] q ↔ (spF x ≤ q ∧ q < spT x) := by simp [covL]
/-- the children cover what their parent covers -/
theorem cov_kids {p : Cl} (hp : Vl p) (h : p.1 < 16) (q : Nat) : covL (kidsC p) q ↔ covL [p] q := by
  show (covL (kidsC p) q ↔ covL [p] q)
  unfold covL
  rw [← covB_map, ← covB_map]
  rw [kids_blk hp h]
  obtain ⟨k, hb⟩ : ∃ k, (blkOf p).1 = k + 1 := ⟨(blkOf p).1 - 1, by
    have : (blkOf p).1 = 16 - p.1.toNat := rfl
    have := hp.l0
    omega⟩
  rw [covS, covS]
  simp only [List.map_cons, List.map_nil, List.mem_singleton, exists_eq_left]
  rw [hb]
  simp only [Nat.add_sub_cancel]
  generalize (blkOf p).2 = n
  have e : 4 ^ (k + 1) = 4 * 4 ^ k := by rw [Nat.pow_succ]; omega
  rw [e]
  generalize hu : 4 ^ k = u
  simp only [kidsB, List.mem_cons, List.not_mem_nil, or_false]
  have m0 : 4 * n * u = 4 * (n * u) := by rw [Nat.mul_assoc]
  have m1 : n * (4 * u) = 4 * (n * u) := by rw [← Nat.mul_assoc, Nat.mul_comm n 4, Nat.mul_assoc]
  have m2 : (n + 1) * (4 * u) = 4 * (n * u) + 4 * u := by rw [Nat.add_mul, m1]; omega
  have a1 : (4 * n + 1) * u = 4 * (n * u) + u := by rw [Nat.add_mul, m0]; omega
  have a2 : (4 * n + 2) * u = 4 * (n * u) + 2 * u := by rw [Nat.add_mul, m0]
  have a3 : (4 * n + 3) * u = 4 * (n * u) + 3 * u := by rw [Nat.add_mul, m0]
  have a4 : (4 * n + 3 + 1) * u = 4 * (n * u) + 4 * u := by rw [show 4 * n + 3 + 1 = 4 * n + 4 by omega, Nat.add_mul, m0]
  have b1 : (4 * n + 1 + 1) * u = 4 * (n * u) + 2 * u := a2
  have b2 : (4 * n + 2 + 1) * u = 4 * (n * u) + 3 * u := a3
  constructor
  · rintro ⟨b, rfl | rfl | rfl | rfl, h1, h2⟩ <;> simp only [hu] at h1 h2 <;> (constructor <;> omega)
  · rintro ⟨h1, h2⟩
    by_cases c1 : q < (4 * n + 1) * u
    · exact ⟨(k, 4 * n), .inl rfl, by simp only [hu]; omega, by simp only [hu]; omega⟩
    · by_cases c2 : q < (4 * n + 2) * u
      · exact ⟨(k, 4 * n + 1), .inr (.inl rfl), by simp only [hu]; omega, by simp only [hu]; rw [show 4 * n + 1 + 1 = 4 * n + 2 by omega]; omega⟩
      · by_cases c3 : q < (4 * n + 3) * u
        · exact ⟨(k, 4 * n + 2), .inr (.inr (.inl rfl)), by simp only [hu]; omega, by simp only [hu]; rw [show 4 * n + 2 + 1 = 4 * n + 3 by omega]; omega⟩
        · exact ⟨(k, 4 * n + 3), .inr (.inr (.inr rfl)), by simp only [hu]; omega, by simp only [hu]; omega⟩

theorem cov_v {L : List Cl} (hL : AllV L) {q : Nat} (h : covL L q) : q < 2 * 4 ^ 16 := by
  obtain ⟨x, hx, -, h2⟩ := h
  have hv := hL x hx
  obtain ⟨g1, g2⟩ := blk_lt x hv
  rw [spT_blk] at h2
  have e : 4 ^ (16 - (blkOf x).1) * 4 ^ (blkOf x).1 = 4 ^ 16 := by rw [← Nat.pow_add]; congr 1; omega
  have : ((blkOf x).2 + 1) * 4 ^ (blkOf x).1 ≤ (2 * 4 ^ (16 - (blkOf x).1)) * 4 ^ (blkOf x).1 := Nat.mul_le_mul_right _ (by omega)
  rw [Nat.mul_assoc, e] at this
  omega
theorem sp_pos (x : Cl) : spF x < spT x := by
  rw [spF_blk, spT_blk]
  exact Nat.mul_lt_mul_of_pos_right (by omega) (Nat.pow_pos (by omega))
/-- one more cell behind a tidy list, put together -/
theorem mg_step {O : List Cl} {c : Cl} (hO : Td O) (hc : Vl c) (hb : ∀ x ∈ O, before2 (blkOf x) (blkOf c)) :
    (four4 (O ++ [c]) = false → Td (O ++ [c])) ∧ (four4 (O ++ [c]) = true → ∃ p, mg1 (O ++ [c]) = O.take (O.length - 3) ++ [p] ∧ Vl p ∧ (∀ x ∈ O.take (O.length - 3), before2 (blkOf x) (blkOf p)) ∧ ∀ q, covL (O.take (O.length - 3) ++ [p]) q ↔ covL (O ++ [c]) q) := by
  have hV : AllV (O ++ [c]) := by
    intro x hx
    rcases List.mem_append.1 hx with hx | hx
    · exact hO.1 x hx
    · simp at hx; subst hx; exact hc
  have hP : ((O ++ [c]).map blkOf).Pairwise before2 := by
    rw [List.map_append, List.pairwise_append]
    refine ⟨hO.2.1, by simp, ?_⟩
    intro a ha b hb'
    obtain ⟨x, hx, rfl⟩ := List.mem_map.1 ha
    simp at hb'
    subst hb'
    exact hb x hx
  constructor
  · intro h4
    refine ⟨hV, hP, ?_⟩
    intro h n pre suf e hh
    rcases List.eq_nil_or_concat suf with rfl | ⟨s', l, rfl⟩
    · have h4' : four4 (O ++ [c]) = true := by
        rw [four4_iff hV]
        have hl := congrArg List.length e
        simp [kidsB] at hl
        refine ⟨by simp; omega, h, n, hh, ?_⟩
        rw [List.map_drop, e]
        simp only [List.append_nil, List.length_append, List.length_cons, List.length_nil]
        rw [show O.length + (0 + 1) - 4 = pre.length by omega, List.drop_left]
      rw [h4] at h4'
      cases h4'
    · rw [List.map_append, List.map_cons, List.map_nil, List.concat_eq_append, ← List.append_assoc, ← List.append_assoc] at e
      have := (List.append_inj' e rfl).1
      exact hO.2.2 h n pre s' (by rw [this, List.append_assoc]) hh
  · intro h4
    have h4' := h4
    unfold four4 at h4
    rw [Bool.and_eq_true, Bool.and_eq_true, decide_eq_true_eq, decide_eq_true_eq, decide_eq_true_eq] at h4
    obtain ⟨hn, h0, hk⟩ := h4
    have hl : (O ++ [c]).length - 4 = O.length - 3 := by simp
    have hn' : 3 ≤ O.length := by simp at hn; omega
    have hx := gt_v hV (i := (O ++ [c]).length - 4) (by simp; omega)
    unfold mg1
    rw [hl] at hk hx h0 ⊢
    generalize gt (O ++ [c]) (O.length - 3) = x at hk hx h0 ⊢
    have hp := par_vl hx h0
    have hlt : (parC x).1 < 16 := by have := hx.l1; simp only [parC]; omega
    have ht : (O ++ [c]).take (O.length - 3) = O.take (O.length - 3) := List.take_append_of_le_length (by omega)
    rw [ht]
    have hsplit : (O ++ [c]) = O.take (O.length - 3) ++ kidsC (parC x) := by rw [hk, ← ht, List.take_append_drop]
    refine ⟨_, rfl, hp, ?_, ?_⟩
    · intro y hy
      have hPs := hP
      rw [hsplit, List.map_append, List.pairwise_append] at hPs
      have h1 := hPs.2.2 (blkOf y) (List.mem_map.2 ⟨y, hy, rfl⟩)
      rw [kids_blk hp hlt] at h1
      have h2 := h1 _ (List.mem_cons_self ..)
      unfold before2 at h2 ⊢
      simp only [] at h2
      obtain ⟨k, hb'⟩ : ∃ k, (blkOf (parC x)).1 = k + 1 := ⟨(blkOf (parC x)).1 - 1, by
        have : (blkOf (parC x)).1 = 16 - (parC x).1.toNat := rfl
        have := hp.l0
        omega⟩
      rw [hb'] at h2 ⊢
      simp only [Nat.add_sub_cancel] at h2
      have e : (blkOf (parC x)).2 * 4 ^ (k + 1) = 4 * (blkOf (parC x)).2 * 4 ^ k := by rw [Nat.pow_succ, Nat.mul_comm (4 ^ k) 4, ← Nat.mul_assoc, Nat.mul_comm _ 4]
      rw [e]
      exact h2
    · intro q
      rw [cov_appL, hsplit, cov_appL, cov_kids hp hlt]
theorem mgF_ok : ∀ (f : Nat) (O : List Cl) (c : Cl), Td O → Vl c → (∀ x ∈ O, before2 (blkOf x) (blkOf c)) → O.length < f → mgF f (O ++ [c]) = canonC (covL (O ++ [c])) ∧ Td (mgF f (O ++ [c])) := by
  intro f
  induction f with
  | zero => intro O c _ _ _ h; omega
  | succ f ih =>
    intro O c hO hc hb hf
    obtain ⟨s1, s2⟩ := mg_step hO hc hb
    unfold mgF
    cases h4 : four4 (O ++ [c]) with
    | false =>
      have ht := s1 h4
      simp only [Bool.false_eq_true, if_false]
      exact ⟨((td_iff ht.1).1 ht).symm, ht⟩
    | true =>
      obtain ⟨p, e, hp, hbp, hcov⟩ := s2 h4
      simp only [if_true]
      have hlen : 3 ≤ O.length := by
        unfold four4 at h4
        rw [Bool.and_eq_true, decide_eq_true_eq] at h4
        have := h4.1
        simp at this
        omega
      rw [e]
      obtain ⟨i1, i2⟩ := ih (O.take (O.length - 3)) p (td_take hO _) hp hbp (by simp; omega)
      exact ⟨by rw [i1]; exact canonC_congr hcov, i2⟩
/-! ### the cells of a level around something -/
def arnL (mt : Cl → Bool) (lev : Int) : Nat → Cl → List Cl
  | 0, c => if mt c = true then (if c.1 = lev then [c] else []) else []
  | f + 1, c => if mt c = true then (if c.1 = lev then [c] else (kidsC c).flatMap (arnL mt lev f)) else []
/-- what the program makes: O is what there was -/
def covP (mt ins : Cl → Bool) (lev : Int) : Nat → Cl → List Cl → List Cl
  | 0, c, O => if mt c = true then mgF (O.length + 1) (O ++ [c]) else O
  | f + 1, c, O => if mt c = true then (if c.1 = lev ∨ ins c = true then mgF (O.length + 1) (O ++ [c]) else (kidsC c).foldl (fun O x => covP mt ins lev f x O) O) else O
theorem arn_v {mt : Cl → Bool} {lev : Int} (h16 : lev ≤ 16) : ∀ (f : Nat) (c : Cl), Vl c → c.1 + f = lev → AllV (arnL mt lev f c) ∧ ∀ q, covL (arnL mt lev f c) q → covL [c] q := by
  intro f
  induction f with
  | zero =>
    intro c hc hl
    unfold arnL
    split
    · split
      · exact ⟨fun x hx => by simp at hx; subst hx; exact hc, fun q h => h⟩
      · exact ⟨fun x hx => (by cases hx), fun q h => (by obtain ⟨x, hx, -⟩ := h; cases hx)⟩
    · exact ⟨fun x hx => (by cases hx), fun q h => (by obtain ⟨x, hx, -⟩ := h; cases hx)⟩
  | succ f ih =>
    intro c hc hl
    unfold arnL
    split
    · split
      · exact ⟨fun x hx => by simp at hx; subst hx; exact hc, fun q h => h⟩
      · have hlt : c.1 < 16 := by omega
        have hkv := kids_vl hc hlt
        have hkl : ∀ x ∈ kidsC c, x.1 + f = lev := by
          intro x hx
          simp only [kidsC, kids, List.mem_cons, List.not_mem_nil, or_false] at hx
          rcases hx with rfl | rfl | rfl | rfl <;> (simp only []; omega)
        refine ⟨fun x hx => ?_, fun q h => ?_⟩
        · obtain ⟨y, hy, hxy⟩ := List.mem_flatMap.1 hx
          exact (ih y (hkv y hy) (hkl y hy)).1 x hxy
        · obtain ⟨x, hx, hq⟩ := h
          obtain ⟨y, hy, hxy⟩ := List.mem_flatMap.1 hx
          have := (ih y (hkv y hy) (hkl y hy)).2 q ⟨x, hxy, hq⟩
          rw [← cov_kids hc hlt]
          rw [cov_one] at this
          exact ⟨y, hy, this⟩
    · exact ⟨fun x hx => (by cases hx), fun q h => (by obtain ⟨x, hx, -⟩ := h; cases hx)⟩

theorem can_v (X : List Cl) (hX : AllV X) : AllV (canonC (covL X)) := by
  have e : canonC (covL X) = regB (covB (X.map blkOf)) := canonC_congr fun q => (covB_map X q).symm
  rw [e]
  exact reg_v _
theorem can_cov {X : List Cl} (hX : AllV X) (q : Nat) : covL (canonC (covL X)) q ↔ covL X q := by
  have hv := can_v X hX
  by_cases hq : q < 2 * 4 ^ 16
  · have h := cov_canonC (covL X) q hq
    rw [covB_map] at h
    exact h
  · exact ⟨fun h => absurd (cov_v hv h) hq, fun h => absurd (cov_v hX h) hq⟩
theorem can_td {X : List Cl} (hX : AllV X) : Td (canonC (covL X)) := (td_iff (can_v X hX)).2 (canonC_congr (can_cov hX))
theorem ins_full {mt ins : Cl → Bool} {lev : Int} (h16 : lev ≤ 16) (hins : ∀ x, Vl x → x.1 < lev → ins x = true → ∀ y ∈ kidsC x, ins y = true ∧ mt y = true) : ∀ (f : Nat) (c : Cl), Vl c → c.1 + f = lev → mt c = true → ins c = true → ∀ q, covL (arnL mt lev f c) q ↔ covL [c] q := by
  intro f
  induction f with
  | zero =>
    intro c hc hl hm hi q
    unfold arnL
    rw [if_pos hm, if_pos (by omega)]
  | succ f ih =>
    intro c hc hl hm hi q
    have hlt : c.1 < 16 := by omega
    unfold arnL
    rw [if_pos hm, if_neg (by omega), ← cov_kids hc hlt]
    have hkv := kids_vl hc hlt
    have hkl : ∀ x ∈ kidsC c, x.1 + f = lev := by
      intro x hx
      simp only [kidsC, kids, List.mem_cons, List.not_mem_nil, or_false] at hx
      rcases hx with rfl | rfl | rfl | rfl <;> (simp only []; omega)
    have hki := hins c hc (by omega) hi
    constructor
    · rintro ⟨x, hx, hq⟩
      obtain ⟨y, hy, hxy⟩ := List.mem_flatMap.1 hx
      have := (ih y (hkv y hy) (hkl y hy) (hki y hy).2 (hki y hy).1 q).1 ⟨x, hxy, hq⟩
      rw [cov_one] at this
      exact ⟨y, hy, this⟩
    · rintro ⟨y, hy, hq⟩
      obtain ⟨x, hx, hq'⟩ := (ih y (hkv y hy) (hkl y hy) (hki y hy).2 (hki y hy).1 q).2 ((cov_one y q).2 hq)
      exact ⟨x, List.mem_flatMap.2 ⟨y, hy, hx⟩, hq'⟩
theorem kids_sp {c : Cl} (hc : Vl c) (h : c.1 < 16) : spF (gt (kidsC c) 0) = spF c ∧ spT (gt (kidsC c) 0) = spF (gt (kidsC c) 1) ∧ spT (gt (kidsC c) 1) = spF (gt (kidsC c) 2) ∧ spT (gt (kidsC c) 2) = spF (gt (kidsC c) 3) := by
  have hk := kids_blk hc h
  have e : kidsC c = [gt (kidsC c) 0, gt (kidsC c) 1, gt (kidsC c) 2, gt (kidsC c) 3] := rfl
  rw [e] at hk
  simp only [List.map_cons, List.map_nil, kidsB, List.cons.injEq, and_true] at hk
  obtain ⟨k0, k1, k2, k3⟩ := hk
  obtain ⟨k, hb⟩ : ∃ k, (blkOf c).1 = k + 1 := ⟨(blkOf c).1 - 1, by
    have : (blkOf c).1 = 16 - c.1.toNat := rfl
    have := hc.l0
    omega⟩
  rw [spF_blk, spF_blk, spF_blk, spF_blk, spF_blk, spT_blk, spT_blk, spT_blk, k0, k1, k2, k3, hb]
  simp only [Nat.add_sub_cancel]
  refine ⟨?_, trivial, trivial, trivial⟩
  rw [Nat.pow_succ, Nat.mul_comm (4 ^ k) 4, ← Nat.mul_assoc, Nat.mul_comm _ 4]
theorem cov_ok {mt ins : Cl → Bool} {lev : Int} (h16 : lev ≤ 16) (hins : ∀ x, Vl x → x.1 < lev → ins x = true → ∀ y ∈ kidsC x, ins y = true ∧ mt y = true) : ∀ (f : Nat) (c : Cl) (X : List Cl), Vl c → c.1 + f = lev → AllV X → (∀ q, covL X q → q < spF c) → covP mt ins lev f c (canonC (covL X)) = canonC (covL (X ++ arnL mt lev f c)) := by
  have leaf : ∀ (c : Cl) (X A : List Cl), Vl c → AllV X → (∀ q, covL X q → q < spF c) → (∀ q, covL A q ↔ covL [c] q) → mgF ((canonC (covL X)).length + 1) (canonC (covL X) ++ [c]) = canonC (covL (X ++ A)) := by
    intro c X A hc hX hlt hA
    have hv := can_v X hX
    rw [(mgF_ok _ (canonC (covL X)) c (can_td hX) hc (fun x hx => by
      have h1 := hlt (spT x - 1) ((can_cov hX _).1 ⟨x, hx, by have := sp_pos x; omega, by have := sp_pos x; omega⟩)
      show (blkOf x).2.succ * 4 ^ (blkOf x).1 ≤ (blkOf c).2 * 4 ^ (blkOf c).1
      have h2 : spT x ≤ spF c := by have := sp_pos x; omega
      exact h2) (by omega)).1]
    refine canonC_congr fun q => ?_
    rw [cov_appL, cov_appL, can_cov hX, hA]
  intro f
  induction f with
  | zero =>
    intro c X hc hl hX hlt
    unfold covP arnL
    by_cases hm : mt c = true
    · rw [if_pos hm, if_pos hm, if_pos (by omega)]
      exact leaf c X [c] hc hX hlt (fun _ => Iff.rfl)
    · rw [if_neg hm, if_neg hm, List.append_nil]
  | succ f ih =>
    intro c X hc hl hX hlt
    have hc16 : c.1 < 16 := by omega
    by_cases hm : mt c = true
    · by_cases hi : ins c = true
      · have hfull := ins_full h16 hins (f + 1) c hc hl hm hi
        unfold covP
        rw [if_pos hm, if_pos (.inr hi)]
        exact leaf c X _ hc hX hlt hfull
      · unfold covP arnL
        rw [if_pos hm, if_pos hm, if_neg (by intro h; rcases h with h | h; omega; exact hi h), if_neg (by omega)]
        have hkv := kids_vl hc hc16
        have hkl : ∀ x ∈ kidsC c, x.1 + f = lev := by
          intro x hx
          simp only [kidsC, kids, List.mem_cons, List.not_mem_nil, or_false] at hx
          rcases hx with rfl | rfl | rfl | rfl <;> (simp only []; omega)
        obtain ⟨s0, s1, s2, s3⟩ := kids_sp hc hc16
        have e : kidsC c = [gt (kidsC c) 0, gt (kidsC c) 1, gt (kidsC c) 2, gt (kidsC c) 3] := rfl
        rw [e] at hkv hkl ⊢
        generalize gt (kidsC c) 0 = y0 at *
        generalize gt (kidsC c) 1 = y1 at *
        generalize gt (kidsC c) 2 = y2 at *
        generalize gt (kidsC c) 3 = y3 at *
        clear e
        have v0 := hkv y0 (by simp)
        have v1 := hkv y1 (by simp)
        have v2 := hkv y2 (by simp)
        have v3 := hkv y3 (by simp)
        have a0 := arn_v (mt := mt) h16 f y0 v0 (hkl y0 (by simp))
        have a1 := arn_v (mt := mt) h16 f y1 v1 (hkl y1 (by simp))
        have a2 := arn_v (mt := mt) h16 f y2 v2 (hkl y2 (by simp))
        have p0 := sp_pos y0
        have p1 := sp_pos y1
        have p2 := sp_pos y2
        have vapp : ∀ {A B : List Cl}, AllV A → AllV B → AllV (A ++ B) := fun hA hB x hx => (List.mem_append.1 hx).elim (hA x) (hB x)
        have x1 : AllV (X ++ arnL mt lev f y0) := vapp hX a0.1
        have x2 : AllV (X ++ arnL mt lev f y0 ++ arnL mt lev f y1) := vapp x1 a1.1
        have x3 : AllV (X ++ arnL mt lev f y0 ++ arnL mt lev f y1 ++ arnL mt lev f y2) := vapp x2 a2.1
        have l1 : ∀ q, covL (X ++ arnL mt lev f y0) q → q < spF y1 := by
          intro q hq
          rcases (cov_appL _ _ q).1 hq with h | h
          · have := hlt q h; omega
          · have := (cov_one y0 q).1 (a0.2 q h); omega
        have l2 : ∀ q, covL (X ++ arnL mt lev f y0 ++ arnL mt lev f y1) q → q < spF y2 := by
          intro q hq
          rcases (cov_appL _ _ q).1 hq with h | h
          · have := l1 q h; omega
          · have := (cov_one y1 q).1 (a1.2 q h); omega
        have l3 : ∀ q, covL (X ++ arnL mt lev f y0 ++ arnL mt lev f y1 ++ arnL mt lev f y2) q → q < spF y3 := by
          intro q hq
          rcases (cov_appL _ _ q).1 hq with h | h
          · have := l2 q h; omega
          · have := (cov_one y2 q).1 (a2.2 q h); omega
        simp only [List.foldl_cons, List.foldl_nil]
        rw [ih y0 X v0 (hkl y0 (by simp)) hX (by rw [s0]; exact hlt), ih y1 _ v1 (hkl y1 (by simp)) x1 l1, ih y2 _ v2 (hkl y2 (by simp)) x2 l2, ih y3 _ v3 (hkl y3 (by simp)) x3 l3]
        simp only [List.flatMap_cons, List.flatMap_nil, List.append_nil, List.append_assoc]
    · unfold covP arnL
      rw [if_neg hm, if_neg hm, List.append_nil]
end Go.Proofs.YtifdgdgfmjfbdaaGreat
namespace Go.Proofs.YtifdgdgfmjfbdaaGreat
open Canon
theorem can_nil : canonC (covL []) = [] := (td_iff (L := []) (fun x hx => by cases hx)).1 ⟨fun x hx => (by cases hx), by simp, fun h n pre suf e => by simp [kidsB] at e⟩
end Go.Proofs.YtifdgdgfmjfbdaaGreat
namespace Go.Proofs.YtifdgdgfmjfbdaaGreat
open Canon
theorem edg_odd (i : Int) (l : Nat) : edg (2 * i + 1 + 1) ((l + 1 : Nat) : Int) = edg (i + 1) (l : Int) := by
  rw [show 2 * i + 1 + 1 = 2 * (i + 1) by omega, edg_even]
end Go.Proofs.YtifdgdgfmjfbdaaGreat
namespace Go.Proofs.YtifdgdgfmjfbdaaGreat
open Canon
theorem bx_facts {x : Cl} (hx : Vl x) : -5400000 ≤ (bxI x).1 ∧ (bxI x).1 ≤ (bxI x).2.1 ∧ (bxI x).2.1 ≤ 5400000 ∧ -10800000 ≤ (bxI x).2.2.1 ∧ (bxI x).2.2.1 ≤ (bxI x).2.2.2 ∧ (bxI x).2.2.2 ≤ 10800000 ∧ (bxI x).2.2.2 - (bxI x).2.2.1 < 21600000 ∧ (bxI x).2.2.1 < 10800000 := by
  have h := box_nums hx
  have h2 : edg (x.2.2 + 1) x.1 ≤ 21600000 := by
    have hv := (vl_iff x).2 hx
    obtain ⟨v0, v1, v2, v3, v4, v5⟩ := vldB_true.1 hv
    exact (edg_bd v1 (by omega) (by omega)).2
  unfold bxI
  simp only []
  omega
theorem kid_nest {x y : Cl} (hx : Vl x) (h : x.1 < 16) (hy : y ∈ kidsC x) : (bxI x).1 ≤ (bxI y).1 ∧ (bxI y).2.1 ≤ (bxI x).2.1 ∧ (bxI x).2.2.1 ≤ (bxI y).2.2.1 ∧ (bxI y).2.2.2 ≤ (bxI x).2.2.2 := by
  obtain ⟨l, r, c⟩ := x
  have hl0 := hx.l0
  simp only [] at hl0 h
  obtain ⟨l, rfl⟩ := Int.eq_ofNat_of_zero_le hl0
  have e : ((l : Nat) : Int) + 1 = ((l + 1 : Nat) : Int) := by omega
  have r0 : edg (2 * r) ((l + 1 : Nat) : Int) = edg r (l : Int) := edg_even r l
  have r1 : edg (2 * r + 1 + 1) ((l + 1 : Nat) : Int) = edg (r + 1) (l : Int) := edg_odd r l
  have c0 : edg (2 * c) ((l + 1 : Nat) : Int) = edg c (l : Int) := edg_even c l
  have c1 : edg (2 * c + 1 + 1) ((l + 1 : Nat) : Int) = edg (c + 1) (l : Int) := edg_odd c l
  have m0 := edg_mono (i := 2 * r) (j := 2 * r + 1) ((l + 1 : Nat) : Int) (by omega)
  have m1 := edg_mono (i := 2 * r + 1) (j := 2 * r + 1 + 1) ((l + 1 : Nat) : Int) (by omega)
  have m2 := edg_mono (i := 2 * c) (j := 2 * c + 1) ((l + 1 : Nat) : Int) (by omega)
  have m3 := edg_mono (i := 2 * c + 1) (j := 2 * c + 1 + 1) ((l + 1 : Nat) : Int) (by omega)
  simp only [kidsC, kids, List.mem_cons, List.not_mem_nil, or_false] at hy
  rw [e] at hy
  rcases hy with rfl | rfl | rfl | rfl <;> (unfold bxI; simp only []; omega)
end Go.Proofs.YtifdgdgfmjfbdaaGreat
namespace Go.Proofs.YtifdgdgfmjfbdaaGreat
open Go.RowKit
theorem bx_vp {x : Cl} (hx : Vl x) : VP (bxI x) := by
  have f := bx_facts hx
  refine ⟨by omega, by omega, by omega, .inr ?_⟩
  simp only []
  omega
set_option maxHeartbeats 2000000 in
theorem rbox_any (l r c : Int) (w : World) (hv : vldB l r c = true) : Calls Tryz.prog 105 #[.agg #[.int .i64 l, .int .i64 r, .int .i64 c]] w fun e w' => e = .returned (boxV l r c) ∧ Below w.heap.size w w' := by
  have KB := Lib.hid (fun W => Box_yes l r c W hv)
  obtain ⟨b0, b1, b2, b3, hbv⟩ : ∃ b0 b1 b2 b3 : Int, boxV l r c = .agg #[.int .i64 b0, .int .i64 b1, .int .i64 b2, .int .i64 b3] := ⟨_, _, _, _, rfl⟩
  rw [hbv] at KB ⊢
  clear hbv hv
  go_enter Tryz.func105, Tryz.ntmps105
  go_wp2_with fail
  (with_reducible refine (KB.out _).mono ?_)
  rintro e w1 ⟨rfl, hb1⟩
  have hb2 := Lib.hid (two_bl hb1)
  have hz := two_lt hb1
  have G := Blk.below (((Blk.new (w.alloc (.cells #[.int .i64 l, .int .i64 r, .int .i64 c] 102)) 31 #[.int .i64 0, .int .i64 0, .int .i64 0, .int .i64 0]))) hb1 (by simp)
  rw [World.size_alloc] at G
  have hf := G.frozen 0
  have hf1 := G.frozen 1
  have hf2 := G.frozen 2
  have hf3 := G.frozen 3
  have y0 := G.cell 0
  have y1 := G.cell 1
  have y2 := G.cell 2
  have y3 := G.cell 3
  simp only [List.getElem?_toArray, List.getElem?_cons_zero, List.getElem?_cons_succ] at y0 y1 y2 y3
  have BK := (((G.set_ 0 (.int .i64 b0)).set_ 1 (.int .i64 b1)).set_ 2 (.int .i64 b2)).set_ 3 (.int .i64 b3)
  simp only [List.setIfInBounds_toArray, List.set_cons_zero, List.set_cons_succ] at BK
  have BK := BK.alloc (.cells #[.int .i64 b0, .int .i64 b1, .int .i64 b2, .int .i64 b3] 31)
  have BB : Below w.heap.size w _ := ((((hb2.out.setCell (p := ⟨w.heap.size + 1, 0, none⟩) (Nat.le_succ _) (.int .i64 b0)).setCell (p := ⟨w.heap.size + 1, 1, none⟩) (Nat.le_succ _) (.int .i64 b1)).setCell (p := ⟨w.heap.size + 1, 2, none⟩) (Nat.le_succ _) (.int .i64 b2)).setCell (p := ⟨w.heap.size + 1, 3, none⟩) (Nat.le_succ _) (.int .i64 b3)).alloc (by simp [World.setCell]; omega) (.cells #[.int .i64 b0, .int .i64 b1, .int .i64 b2, .int .i64 b3] 31)
  have BKH := Lib.hid BK
  have BBH := Lib.hid BB
  clear hb1 G BK BB
  go_wp2
  have c0 := BKH.out.cell 0
  have c1 := BKH.out.cell 1
  have c2 := BKH.out.cell 2
  have c3 := BKH.out.cell 3
  have BB := BBH.out
  generalize World.alloc _ _ = W9 at c0 c1 c2 c3 BB ⊢
  simp only [List.getElem?_toArray, List.getElem?_cons_zero, List.getElem?_cons_succ] at c0 c1 c2 c3
  refine bodyPost_ret (v := .agg #[.int .i64 b0, .int .i64 b1, .int .i64 b2, .int .i64 b3]) (by simp [results, Tryz.results105, go_sem, c0, c1, c2, c3]) rfl ⟨rfl, BB⟩
end Go.Proofs.YtifdgdgfmjfbdaaGreat
namespace Go.Proofs.YtifdgdgfmjfbdaaGreat
open Go.RowKit
set_option maxHeartbeats 4000000 in
set_option maxRecDepth 100000 in
theorem rSide_yes (a0 a1 o0 o1 r0 r1 q0 q1 q2 q3 : Int) (w : World) (hc : VC a0 a1 o0 o1 r0 r1) (hq : VP (q0, q1, q2, q3)) :
    Calls Tryz.prog 245 #[.agg #[.int .i64 a0, .int .i64 a1, .int .i64 o0, .int .i64 o1, .int .i64 r0, .int .i64 r1], .agg #[.int .i64 q0, .int .i64 q1, .int .i64 q2, .int .i64 q3]] w fun e w' => e = .returned (.int .i64 (sdV (Trig.sinT (q0, q1) (a0, a1) (q2 - o1, q3 - o0)) (Trig.csP (r0, r1)))) ∧ Below w.heap.size w w' := by
  have bq := vp_bd hq
  have bp := vp_bd hc.p
  have br := hc.h0
  have br1 := hc.h1
  have br2 := hc.h2
  have KT := fun W => Triangle2_any a0 a1 o0 o1 r0 r1 q0 q1 q2 q3 W (by omega)
  have KS := fun W => Sine25_any (q0, q1) (a0, a1) (q2 - o1, q3 - o0) W (by simp only []; omega) (by simp only []; omega) (by simp only []; omega)
  have KC := fun W => CosR_any r0 r1 W (by omega) (by omega) (by omega) (by omega)
  rw [show Trig.enLo (r0 + 5400000) (r1 + 5400000) = (Trig.csP (r0, r1)).1 from rfl, show Trig.enHi (r0 + 5400000) (r1 + 5400000) = (Trig.csP (r0, r1)).2 from rfl] at KC
  clear hc hq bq bp br br1 br2
  generalize Trig.sinT (q0, q1) (a0, a1) (q2 - o1, q3 - o0) = s at *
  generalize Trig.csP (r0, r1) = tr at *
  obtain ⟨V, hV⟩ : ∃ V, sdV s tr = V := ⟨_, rfl⟩
  rw [hV]
  unfold sdV at hV
  obtain ⟨t0, t1⟩ := tr
  obtain ⟨s0, s1⟩ := s
  simp only [] at KS KC hV
  generalize q2 - o1 = c0 at *
  generalize q3 - o0 = c1 at *
  have KT := Lib.hid KT
  have KS := Lib.hid KS
  have KC := Lib.hid KC
  have HV := Lib.hid hV
  clear hV
  have C0 := Lib.hid ((Blk.new w 39 #[.int .i64 a0, .int .i64 a1, .int .i64 o0, .int .i64 o1, .int .i64 r0, .int .i64 r1]).alloc (.cells #[.int .i64 q0, .int .i64 q1, .int .i64 q2, .int .i64 q3] 31))
  have B0 := Lib.hid ((bl_alloc w (.cells #[.int .i64 a0, .int .i64 a1, .int .i64 o0, .int .i64 o1, .int .i64 r0, .int .i64 r1] 39)).alloc (by simp) (.cells #[.int .i64 q0, .int .i64 q1, .int .i64 q2, .int .i64 q3] 31))
  go_enter Tryz.func245, Tryz.ntmps245
  go_wp2_with fail
  (with_reducible refine (KT.out _).mono ?_)
  rintro e w1 ⟨rfl, hb1⟩
  have C1 := Lib.hid (C0.out.below hb1 C0.out.lt)
  have B1 := Lib.hid (B0.out.trans (hb1.mono B0.out.size))
  clear hb1 C0 B0 KT
  go_wp2_with fail
  (with_reducible refine (KS.out _).mono ?_)
  rintro e w2 ⟨rfl, hb2⟩
  have C2 := Lib.hid ((C1.out.below hb2 C1.out.lt).alloc (.cells #[.int .i64 s0, .int .i64 s1] 97))
  have D2' := Lib.hid (D2.new w2 s0 s1 97)
  have b2 := B1.out.trans (hb2.mono B1.out.size)
  have B2 := Lib.hid (b2.alloc b2.size (.cells #[.int .i64 s0, .int .i64 s1] 97))
  have k4 : (w2.alloc (.cells #[.int .i64 s0, .int .i64 s1] 97)).cell? ⟨w.heap.size, 4, none⟩ = some (.int .i64 r0) := C2.out.cell 4
  have k5 : (w2.alloc (.cells #[.int .i64 s0, .int .i64 s1] 97)).cell? ⟨w.heap.size, 5, none⟩ = some (.int .i64 r1) := C2.out.cell 5
  clear hb2 b2 C1 B1 KS
  go_wp2_with fail
  (with_reducible refine (KC.out _).mono ?_)
  rintro e w3 ⟨rfl, hb3⟩
  have D3 := Lib.hid ((D2'.out.below hb3 D2'.out.lt).alloc (.cells #[.int .i64 t0, .int .i64 t1] 97))
  have b3 := B2.out.trans (hb3.mono B2.out.size)
  have B3 := Lib.hid (b3.alloc b3.size (.cells #[.int .i64 t0, .int .i64 t1] 97))
  clear hb3 b3 C2 B2 D2' k4 k5 KC
  obtain ⟨-, u0, u1, -, -⟩ := D3.out
  have HV := HV.out
  by_cases h1 : t1 < s0
  · rw [if_pos h1] at HV
    subst HV
    have d1 : decide (t1 < s0) = true := decide_eq_true h1
    clear h1
    go_wp2
    go_ret
    exact ⟨rfl, B3.out⟩
  · rw [if_neg h1] at HV
    have d1 : decide (t1 < s0) = false := decide_eq_false h1
    by_cases h2 : s1 < t0
    · rw [if_pos h2] at HV
      subst HV
      have d2 : decide (s1 < t0) = true := decide_eq_true h2
      clear h1 h2
      go_wp2
      go_ret
      exact ⟨rfl, B3.out⟩
    · rw [if_neg h2] at HV
      subst HV
      have d2 : decide (s1 < t0) = false := decide_eq_false h2
      clear h1 h2
      go_wp2
      go_ret
      exact ⟨rfl, B3.out⟩
end Go.Proofs.YtifdgdgfmjfbdaaGreat
