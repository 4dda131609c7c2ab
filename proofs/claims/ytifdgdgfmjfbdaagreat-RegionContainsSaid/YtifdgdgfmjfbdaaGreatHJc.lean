/- The walk of law38's awake; comparison of places. -/
import Derived.Test.YtifdgdgfmjfbdaaGreatHJb
import Derived.Test.YtifdgdgfmjfbdaaGreatHWd
import Derived.Test.YtifdgdgfmjfbdaaGreatHWn
set_option linter.unusedVariables false
set_option linter.unusedSimpArgs false
namespace Go.Proofs.YtifdgdgfmjfbdaaGreat
open Canon
/-! ### which regions are tidy, for the reference -/
theorem mort_split (l r c k : Nat) (hk : k ≤ l) : mort k (r / 2 ^ (l - k)) (c / 2 ^ (l - k)) * 4 ^ (l - k) ≤ mort l r c ∧ mort l r c + 1 ≤ (mort k (r / 2 ^ (l - k)) (c / 2 ^ (l - k)) + 1) * 4 ^ (l - k) := by
  have h := mort_anc (l - k) l r c (by omega)
  rw [show l - (l - k) = k by omega] at h
  rw [← h]
  have hp : 0 < 4 ^ (l - k) := Nat.pow_pos (by omega)
  refine ⟨Nat.div_mul_le_self _ _, ?_⟩
  have := Nat.lt_mul_div_succ (mort l r c) hp
  rw [Nat.mul_comm] at this
  exact this
theorem before_of_mort {l r c l' r' c' k : Nat} (hk : k ≤ l) (hk' : k ≤ l') (hl : l ≤ 16) (hl' : l' ≤ 16) (h : mort k (r / 2 ^ (l - k)) (c / 2 ^ (l - k)) < mort k (r' / 2 ^ (l' - k)) (c' / 2 ^ (l' - k))) :
    (mort l r c + 1) * 4 ^ (16 - l) ≤ mort l' r' c' * 4 ^ (16 - l') := by
  have h1 := (mort_split l r c k hk).2
  have h2 := (mort_split l' r' c' k hk').1
  generalize mort k (r / 2 ^ (l - k)) (c / 2 ^ (l - k)) = u at *
  generalize mort k (r' / 2 ^ (l' - k)) (c' / 2 ^ (l' - k)) = v at *
  have e1 : 4 ^ (16 - k) = 4 ^ (l - k) * 4 ^ (16 - l) := by rw [← Nat.pow_add]; congr 1; omega
  have e2 : 4 ^ (16 - k) = 4 ^ (l' - k) * 4 ^ (16 - l') := by rw [← Nat.pow_add]; congr 1; omega
  calc (mort l r c + 1) * 4 ^ (16 - l) ≤ (u + 1) * 4 ^ (l - k) * 4 ^ (16 - l) := Nat.mul_le_mul_right _ h1
    _ = (u + 1) * 4 ^ (16 - k) := by rw [Nat.mul_assoc, ← e1]
    _ ≤ v * 4 ^ (16 - k) := Nat.mul_le_mul_right _ h
    _ = v * 4 ^ (l' - k) * 4 ^ (16 - l') := by rw [Nat.mul_assoc, ← e2]
    _ ≤ mort l' r' c' * 4 ^ (16 - l') := Nat.mul_le_mul_right _ h2
theorem anc_nat (r l k : Nat) : anc (r : Int) (l : Int) k = ((r / 2 ^ (l - k) : Nat) : Int) := by simp [anc]
theorem befF_spec (l r c l' r' c' : Nat) (hl : l ≤ 16) (hl' : l' ≤ 16) (hr : r < 2 ^ l) (hr' : r' < 2 ^ l') (n1 : wiB ((l : Int), (r : Int), (c : Int)) ((l' : Int), (r' : Int), (c' : Int)) = false) (n2 : wiB ((l' : Int), (r' : Int), (c' : Int)) ((l : Int), (r : Int), (c : Int)) = false) :
    ∀ f k : Nat, f + k = min l l' + 1 → (0 < k → r / 2 ^ (l - (k - 1)) = r' / 2 ^ (l' - (k - 1)) ∧ c / 2 ^ (l - (k - 1)) = c' / 2 ^ (l' - (k - 1))) →
      (befF ((l : Int), (r : Int), (c : Int)) ((l' : Int), (r' : Int), (c' : Int)) f k = true → (mort l r c + 1) * 4 ^ (16 - l) ≤ mort l' r' c' * 4 ^ (16 - l')) ∧
      (befF ((l : Int), (r : Int), (c : Int)) ((l' : Int), (r' : Int), (c' : Int)) f k = false → (mort l' r' c' + 1) * 4 ^ (16 - l') ≤ mort l r c * 4 ^ (16 - l)) := by
  intro f
  induction f with
  | zero =>
    intro k hk h
    exfalso
    obtain ⟨h1, h2⟩ := h (by omega)
    rw [show k - 1 = min l l' by omega] at h1 h2
    by_cases hll : l ≤ l'
    · rw [show min l l' = l by omega, Nat.sub_self, Nat.pow_zero, Nat.div_one] at h1 h2
      have : wiB ((l' : Int), (r' : Int), (c' : Int)) ((l : Int), (r : Int), (c : Int)) = true := by
        simp only [wiB, decide_eq_true_eq]
        have ed : ((l' : Int) - (l : Int)).toNat = l' - l := by omega
        rw [ed]
        refine ⟨by omega, ?_, ?_⟩
        · rw [h1]; simp
        · rw [h2]; simp
      rw [n2] at this
      exact Bool.noConfusion this
    · rw [show min l l' = l' by omega, Nat.sub_self, Nat.pow_zero, Nat.div_one] at h1 h2
      have : wiB ((l : Int), (r : Int), (c : Int)) ((l' : Int), (r' : Int), (c' : Int)) = true := by
        simp only [wiB, decide_eq_true_eq]
        have ed : ((l : Int) - (l' : Int)).toNat = l - l' := by omega
        rw [ed]
        refine ⟨by omega, ?_, ?_⟩
        · rw [← h1]; simp
        · rw [← h2]; simp
      rw [n1] at this
      exact Bool.noConfusion this
  | succ f ih =>
    intro k hk h
    have kl : k ≤ l := by omega
    have kl' : k ≤ l' := by omega
    unfold befF
    simp only [anc_nat]
    -- the ancestors of level k - 1 are halves
    have half : ∀ z m : Nat, 0 < k → k ≤ m → z / 2 ^ (m - (k - 1)) = z / 2 ^ (m - k) / 2 := by
      intro z m h0 hm
      rw [show m - (k - 1) = (m - k) + 1 by omega, Nat.pow_succ, Nat.div_div_eq_div_mul]
    have up : ∀ z m z' m' : Nat, k = 0 → m < 2 ^ l → m' < 2 ^ l' → m / 2 ^ (l - k) = m' / 2 ^ (l' - k) := by
      intro z m z' m' h0 hm hm'
      rw [h0, Nat.sub_zero, Nat.sub_zero, Nat.div_eq_of_lt hm, Nat.div_eq_of_lt hm']
    have hm0 : ∀ a b : Nat, mort 0 a b = b := fun a b => rfl
    have hB := before_of_mort (r := r) (c := c) (r' := r') (c' := c') kl kl' hl hl'
    have hB' := before_of_mort (r := r') (c := c') (r' := r) (c' := c) kl' kl hl' hl
    have hu0 := up 0 r 0 r'
    have hstep := fun h1 h2 => ih (k + 1) (by omega) (fun _ => ⟨h1, h2⟩)
    simp only [Nat.add_sub_cancel] at hstep
    have hh : 0 < k → r / 2 ^ (l - k) / 2 = r' / 2 ^ (l' - k) / 2 ∧ c / 2 ^ (l - k) / 2 = c' / 2 ^ (l' - k) / 2 := by
      intro h0
      obtain ⟨h1, h2⟩ := h h0
      rw [half r l h0 kl, half r' l' h0 kl'] at h1
      rw [half c l h0 kl, half c' l' h0 kl'] at h2
      exact ⟨h1, h2⟩
    have hu1 := fun h0 => hu0 h0 hr hr'
    clear h half up hu0 ih
    generalize r / 2 ^ (l - k) = a at *
    generalize r' / 2 ^ (l' - k) = a' at *
    generalize c / 2 ^ (l - k) = b at *
    generalize c' / 2 ^ (l' - k) = b' at *
    -- the numbers of the two ancestors
    have hlt : (a < a' ∨ (a = a' ∧ b < b')) → mort k a b < mort k a' b' := by
      intro hc
      rcases Nat.eq_zero_or_pos k with h0 | h0
      · have := hu1 h0
        rw [h0, hm0, hm0]
        omega
      · obtain ⟨h1, h2⟩ := hh h0
        obtain ⟨m, rfl⟩ : ∃ m, k = m + 1 := ⟨k - 1, by omega⟩
        simp only [mort]
        rw [h1, h2]
        omega
    have hgt : (a' < a ∨ (a = a' ∧ b' < b)) → mort k a' b' < mort k a b := by
      intro hc
      rcases Nat.eq_zero_or_pos k with h0 | h0
      · have := hu1 h0
        rw [h0, hm0, hm0]
        omega
      · obtain ⟨h1, h2⟩ := hh h0
        obtain ⟨m, rfl⟩ : ∃ m, k = m + 1 := ⟨k - 1, by omega⟩
        simp only [mort]
        rw [h1, h2]
        omega
    by_cases e1 : a = a'
    · rw [if_pos (by rw [e1])]
      by_cases e2 : b = b'
      · rw [if_pos (by rw [e2])]
        exact hstep e1 e2
      · rw [if_neg (by omega)]
        constructor
        · intro hd
          have hd := of_decide_eq_true hd
          exact hB (hlt (.inr ⟨e1, by omega⟩))
        · intro hd
          have hd := of_decide_eq_false hd
          exact hB' (hgt (.inr ⟨e1, by omega⟩))
    · rw [if_neg (by omega)]
      constructor
      · intro hd
        have hd := of_decide_eq_true hd
        exact hB (hlt (.inl (by omega)))
      · intro hd
        have hd := of_decide_eq_false hd
        exact hB' (hgt (.inl (by omega)))
theorem befB_spec {x y : Cl} (hx : Vl x) (hy : Vl y) (n1 : wiB x y = false) (n2 : wiB y x = false) : (befB x y = true → before2 (blkOf x) (blkOf y)) ∧ (befB x y = false → before2 (blkOf y) (blkOf x)) := by
  obtain ⟨l, r, c⟩ := x
  obtain ⟨l', r', c'⟩ := y
  obtain ⟨a0, a1, a2, a3, a4, a5⟩ := hx
  obtain ⟨b0, b1, b2, b3, b4, b5⟩ := hy
  simp only [] at *
  obtain ⟨l, rfl⟩ := Int.eq_ofNat_of_zero_le a0
  obtain ⟨r, rfl⟩ := Int.eq_ofNat_of_zero_le a2
  obtain ⟨c, rfl⟩ := Int.eq_ofNat_of_zero_le a4
  obtain ⟨l', rfl⟩ := Int.eq_ofNat_of_zero_le b0
  obtain ⟨r', rfl⟩ := Int.eq_ofNat_of_zero_le b2
  obtain ⟨c', rfl⟩ := Int.eq_ofNat_of_zero_le b4
  simp only [Int.toNat_natCast] at *
  have h := befF_spec l r c l' r' c' (by omega) (by omega) a3 b3 n1 n2 (min l l' + 1) 0 (by omega) (by omega)
  have e : (min (l : Int) (l' : Int)).toNat = min l l' := by omega
  unfold befB before2 blkOf mortI
  simp only [e, Int.toNat_natCast]
  exact h
/-- what the reference asks of two cells side by side -/
def pairOk (x y : Cl) : Bool := !wiB y x && !wiB x y && befB x y
theorem ins_bounds {a b : Blk2} (h : insB a b.1 b.2 = true) : b.2 * 4 ^ b.1 ≤ a.2 * 4 ^ a.1 ∧ (a.2 + 1) * 4 ^ a.1 ≤ (b.2 + 1) * 4 ^ b.1 := by
  have hle : a.1 ≤ b.1 := by simp only [insB, decide_eq_true_eq] at h; exact h.1
  exact (ins_iff hle).1 h
theorem pairOk_iff {x y : Cl} (hx : Vl x) (hy : Vl y) : pairOk x y = true ↔ before2 (blkOf x) (blkOf y) := by
  have px := blk_pos (blkOf x)
  have py := blk_pos (blkOf y)
  unfold pairOk
  constructor
  · intro h
    simp only [Bool.and_eq_true, Bool.not_eq_true'] at h
    exact (befB_spec hx hy h.1.2 h.1.1).1 h.2
  · intro h
    have n1 : wiB y x = false := by
      cases hw : wiB y x with
      | false => rfl
      | true =>
        rw [wiB_ins hy hx] at hw
        have := ins_bounds hw
        unfold before2 at h
        omega
    have n2 : wiB x y = false := by
      cases hw : wiB x y with
      | false => rfl
      | true =>
        rw [wiB_ins hx hy] at hw
        have := ins_bounds hw
        unfold before2 at h
        omega
    rw [n1, n2]
    cases hb : befB x y with
    | true => rfl
    | false =>
      have := (befB_spec hx hy n2 n1).2 hb
      unfold before2 at h this
      omega
/-- what the reference asks of four cells side by side -/
def fourOk (x y z u : Cl) : Bool := !(decide (0 < u.1) && broB x y z u)
def PairsTo (L : List Cl) (k : Nat) : Prop := ∀ i, i + 1 < k → pairOk (gt L i) (gt L (i + 1)) = true
def FoursTo (L : List Cl) (k : Nat) : Prop := ∀ i, i + 3 < k → fourOk (gt L i) (gt L (i + 1)) (gt L (i + 2)) (gt L (i + 3)) = true
open Classical in
/-- what the reference's ValidRegion says -/
noncomputable def rvrB (L : List Cl) : Bool := decide (L.length ≤ 4000) && !badL L && decide (PairsTo L L.length) && decide (FoursTo L L.length)
theorem chain_pairwise : ∀ {L : List Cl}, (∀ i, i + 1 < L.length → before2 (blkOf (gt L i)) (blkOf (gt L (i + 1)))) → (L.map blkOf).Pairwise before2
  | [], _ => by simp
  | [x], _ => by simp
  | x :: y :: L, h => by
    have h2 := chain_pairwise (L := y :: L) (fun i hi => by
      have := h (i + 1) (by simp only [List.length_cons] at hi ⊢; omega)
      simpa [gt] using this)
    have h0 : before2 (blkOf x) (blkOf y) := by simpa [gt] using h 0 (by simp)
    rw [List.map_cons, List.pairwise_cons]
    refine ⟨fun b hb => ?_, h2⟩
    rw [List.map_cons, List.mem_cons] at hb
    rcases hb with rfl | hb
    · exact h0
    · rw [List.map_cons, List.pairwise_cons] at h2
      have := h2.1 b hb
      have hp := blk_pos (blkOf y)
      unfold before2 at *
      omega
theorem pairwise_gt {L : List Cl} (h : (L.map blkOf).Pairwise before2) (i : Nat) (hi : i + 1 < L.length) : before2 (blkOf (gt L i)) (blkOf (gt L (i + 1))) := by
  rw [List.pairwise_map] at h
  have := (List.pairwise_iff_getElem.1 h) i (i + 1) (by omega) hi (by omega)
  simpa [gt, hi, show i < L.length by omega] using this
theorem gt_v {L : List Cl} (hL : AllV L) {i : Nat} (hi : i < L.length) : Vl (gt L i) := hL _ (by simp [gt, hi])
theorem pairs_iff {L : List Cl} (hL : AllV L) : PairsTo L L.length ↔ (L.map blkOf).Pairwise before2 := by
  constructor
  · intro h
    exact chain_pairwise fun i hi => (pairOk_iff (gt_v hL (by omega)) (gt_v hL hi)).1 (h i hi)
  · intro h i hi
    exact (pairOk_iff (gt_v hL (by omega)) (gt_v hL hi)).2 (pairwise_gt h i hi)
theorem bro_true {x y z u : Cl} (hx : Vl x) (hy : Vl y) (hz : Vl z) (hu : Vl u) : (decide (0 < u.1) && broB x y z u) = true ↔ ∃ h n, h < 16 ∧ [x, y, z, u].map blkOf = kidsB h n := by
  constructor
  · intro h
    rw [Bool.and_eq_true, decide_eq_true_eq] at h
    obtain ⟨_, h⟩ := h
    unfold broB at h
    by_cases hx0 : x.1 = 0
    · rw [if_pos hx0] at h
      exact Bool.noConfusion h
    · rw [if_neg hx0] at h
      simp only [Bool.and_eq_true, ceq_true] at h
      obtain ⟨⟨⟨e1, e2⟩, e3⟩, e4⟩ := h
      have hp : Vl (x.1 - 1, x.2.1 / 2, x.2.2 / 2) := by
        obtain ⟨a0, a1, a2, a3, a4, a5⟩ := hx
        have e : x.1.toNat = (x.1 - 1).toNat + 1 := by omega
        rw [e, Nat.pow_succ] at a3 a5
        constructor <;> simp only [] <;> omega
      have hk := kids_blk hp (by have := hx.l1; simp only []; omega)
      refine ⟨(blkOf (x.1 - 1, x.2.1 / 2, x.2.2 / 2)).1 - 1, (blkOf (x.1 - 1, x.2.1 / 2, x.2.2 / 2)).2, ?_, ?_⟩
      · have := (blk_lt _ hp).1
        have h16 : (blkOf (x.1 - 1, x.2.1 / 2, x.2.2 / 2)).1 = 16 - (x.1 - 1).toNat := rfl
        omega
      · rw [← hk]
        show [blkOf x, blkOf y, blkOf z, blkOf u] = [blkOf (gt (kids (x.1 - 1) (x.2.1 / 2) (x.2.2 / 2)) 0), blkOf (gt (kids (x.1 - 1) (x.2.1 / 2) (x.2.2 / 2)) 1), blkOf (gt (kids (x.1 - 1) (x.2.1 / 2) (x.2.2 / 2)) 2), blkOf (gt (kids (x.1 - 1) (x.2.1 / 2) (x.2.2 / 2)) 3)]
        rw [← e1, ← e2, ← e3, ← e4]
  · rintro ⟨h, n, hh, he⟩
    have hux : blkOf x = (h, 4 * n) ∧ blkOf u = (h, 4 * n + 3) := by
      simp only [List.map_cons, List.map_nil, kidsB, List.cons.injEq, and_true] at he
      exact ⟨he.1, he.2.2.2⟩
    have hlt := (blk_lt u hu).2
    rw [hux.2] at hlt
    simp only [] at hlt
    have hpv : Vl (cellB (h + 1, n)) := by
      refine cellB_vl _ (by simp only []; omega) ?_
      simp only []
      rw [show 16 - h = (16 - (h + 1)) + 1 by omega, Nat.pow_succ] at hlt
      omega
    have hb := blkOf_cellB (h + 1, n) (by simp only []; omega)
    have hl : (cellB (h + 1, n)).1 < 16 := by
      simp only [cellB, cellN]
      omega
    have hk := kids_blk hpv hl
    rw [hb] at hk
    simp only [Nat.add_sub_cancel] at hk
    have e : [x, y, z, u] = kidsC (cellB (h + 1, n)) := by
      have hv : AllV [x, y, z, u] := by
        intro v hv
        simp only [List.mem_cons, List.not_mem_nil, or_false] at hv
        rcases hv with rfl | rfl | rfl | rfl <;> assumption
      rw [← map_blk_back hv, ← map_blk_back (kids_vl hpv hl), he, hk]
    generalize cellB (h + 1, n) = p at *
    obtain ⟨pl, pr, pc⟩ := p
    simp only [kidsC, kids, List.cons.injEq, and_true] at e
    obtain ⟨rfl, rfl, rfl, rfl⟩ := e
    have hp0 := hpv.l0
    simp only [] at hp0
    have q1 : pl + 1 - 1 = pl := by omega
    have q2 : 2 * pr / 2 = pr := by omega
    have q3 : 2 * pc / 2 = pc := by omega
    have q4 : ¬ pl + 1 = 0 := by omega
    rw [Bool.and_eq_true, decide_eq_true_eq]
    refine ⟨by simp only []; omega, ?_⟩
    simp only [broB, q1, q2, q3, q4, if_false, kids, gt, List.getD_cons_zero, List.getD_cons_succ, ceq, decide_true, Bool.and_self]
theorem gt_drop (L : List Cl) (i : Nat) (h : i + 3 < L.length) : ∃ pre suf, L = pre ++ ([gt L i, gt L (i + 1), gt L (i + 2), gt L (i + 3)] ++ suf) ∧ pre.length = i := by
  refine ⟨L.take i, L.drop (i + 4), ?_, by simp; omega⟩
  have e : ∀ j, j < L.length → L.drop j = gt L j :: L.drop (j + 1) := fun j hj => by
    rw [List.drop_eq_getElem_cons hj]
    simp [gt, hj]
  have := (List.take_append_drop i L).symm
  rw [e i (by omega), e (i + 1) (by omega), e (i + 2) (by omega), e (i + 3) (by omega)] at this
  exact this
theorem gt_at (pre : List Cl) (x y z u : Cl) (suf : List Cl) : gt (pre ++ ([x, y, z, u] ++ suf)) pre.length = x ∧ gt (pre ++ ([x, y, z, u] ++ suf)) (pre.length + 1) = y ∧ gt (pre ++ ([x, y, z, u] ++ suf)) (pre.length + 2) = z ∧ gt (pre ++ ([x, y, z, u] ++ suf)) (pre.length + 3) = u := by
  refine ⟨?_, ?_, ?_, ?_⟩ <;> simp [gt, List.getD_eq_getElem?_getD]
theorem fours_iff {L : List Cl} (hL : AllV L) : FoursTo L L.length ↔ NoFour (L.map blkOf) := by
  constructor
  · intro h k n pre suf he hk
    obtain ⟨P1, R, rfl, h1, h2⟩ := List.map_eq_append_iff.1 he
    obtain ⟨Q, S, rfl, h3, h4⟩ := List.map_eq_append_iff.1 h2
    have hlen : Q.length = 4 := by
      have := congrArg List.length h3
      simpa [kidsB] using this
    match Q, hlen with
    | [x, y, z, u], _ =>
      have hi := h P1.length (by simp only [List.length_append, List.length_cons, List.length_nil]; omega)
      obtain ⟨g0, g1, g2, g3⟩ := gt_at P1 x y z u S
      rw [g0, g1, g2, g3] at hi
      have hv : ∀ w ∈ [x, y, z, u], Vl w := fun w hw => hL w (by simp only [List.mem_append]; exact .inr (.inl hw))
      have := (bro_true (hv x (by simp)) (hv y (by simp)) (hv z (by simp)) (hv u (by simp))).2 ⟨k, n, hk, h3⟩
      unfold fourOk at hi
      rw [this] at hi
      exact Bool.noConfusion hi
  · intro h i hi
    obtain ⟨pre, suf, he, _⟩ := gt_drop L i hi
    unfold fourOk
    cases hb : (decide (0 < (gt L (i + 3)).1) && broB (gt L i) (gt L (i + 1)) (gt L (i + 2)) (gt L (i + 3))) with
    | false => rfl
    | true =>
      exfalso
      obtain ⟨k, n, hk, hm⟩ := (bro_true (gt_v hL (by omega)) (gt_v hL (by omega)) (gt_v hL (by omega)) (gt_v hL (by omega))).1 hb
      refine h k n (pre.map blkOf) (suf.map blkOf) ?_ hk
      conv => lhs; rw [he]
      rw [List.map_append, List.map_append, hm]
theorem allV_of {L : List Cl} (h : badL L = false) : AllV L := fun x hx => (vl_iff x).1 (badL_false h x hx)
theorem canonC_blk (S : Nat → Prop) : (canonC S).map blkOf = canon S 16 0 ++ canon S 16 1 := by
  unfold canonC
  rw [List.map_map]
  conv => rhs; rw [← List.map_id (canon S 16 0 ++ canon S 16 1)]
  refine List.map_congr_left fun b hb => blkOf_cellB b ?_
  rw [List.mem_append] at hb
  rcases hb with hb | hb <;> exact canon_h16 (Nat.le_refl _) b hb
theorem canon2_sorted (S : Nat → Prop) : (canon S 16 0 ++ canon S 16 1).Pairwise before2 := by
  rw [List.pairwise_append]
  refine ⟨canon_sorted _ _ _, canon_sorted _ _ _, fun x hx y hy => ?_⟩
  have h1 := (canon_in _ 16 0 x hx).2
  have h2 := (canon_in _ 16 1 y hy).1
  unfold before2
  omega
/-- a list of valid cells is tidy exactly if it is the list of the greatest cells of what it covers -/
theorem tidy_iff {L : List Cl} (hL : AllV L) : canonC (covL L) = L ↔ (PairsTo L L.length ∧ FoursTo L L.length) := by
  rw [pairs_iff hL, fours_iff hL]
  constructor
  · intro h
    have h2 := canonC_blk (covL L)
    rw [h] at h2
    rw [h2]
    exact ⟨canon2_sorted _, canon_no_four _⟩
  · rintro ⟨h1, h2⟩
    have hb : ∀ b ∈ L.map blkOf, b.1 ≤ 16 ∧ b.2 / 4 ^ (16 - b.1) < 2 := by
      intro b hb
      obtain ⟨x, hx, rfl⟩ := List.mem_map.1 hb
      obtain ⟨g1, g2⟩ := blk_lt x (hL x hx)
      refine ⟨g1, ?_⟩
      rw [Nat.div_lt_iff_lt_mul (Nat.pow_pos (by omega))]
      exact g2
    have h := tidy_is_canon h1 h2 hb
    have e : canonC (covL L) = canonC (fun q => covB (L.map blkOf) q = true) := canonC_congr fun q => (covB_map L q).symm
    rw [e]
    unfold canonC
    rw [← h]
    exact map_blk_back hL
theorem rvrB_eq (L : List Cl) : rvrB L = vrB L := by
  unfold rvrB vrB
  cases hb : badL L with
  | true => simp
  | false =>
    have hL := allV_of hb
    have h1 := tidy_cover L (badL_false hb)
    rw [h1]
    have h2 := tidy_iff hL
    rw [Bool.and_assoc]
    congr 1
    rw [Bool.eq_iff_iff, Bool.and_eq_true]
    simp only [decide_eq_true_eq]
    exact h2.symm
theorem vrB_iff (L : List Cl) : vrB L = true ↔ (L.length ≤ 4000 ∧ AllV L ∧ canonC (covL L) = L) := by
  unfold vrB
  cases hb : badL L with
  | true =>
    simp only [Bool.not_true, Bool.and_false, Bool.false_and]
    constructor
    · intro h; exact Bool.noConfusion h
    · rintro ⟨_, h, _⟩
      exfalso
      unfold badL at hb
      rw [List.any_eq_true] at hb
      obtain ⟨x, hx, h2⟩ := hb
      have := (vl_iff x).2 (h x hx)
      rw [this] at h2
      exact Bool.noConfusion h2
  | false =>
    have hL := allV_of hb
    rw [tidy_cover L (badL_false hb), Bool.and_eq_true, Bool.and_eq_true, decide_eq_true_eq, decide_eq_true_eq]
    exact ⟨fun h => ⟨h.1.1, hL, h.2⟩, fun h => ⟨⟨h.1, rfl⟩, h.2.2⟩⟩
end Go.Proofs.YtifdgdgfmjfbdaaGreat
namespace Go.Proofs.YtifdgdgfmjfbdaaGreat
open Canon
/-! ### regions as sets -/
theorem cov_app (A B : List Blk2) (q : Nat) : covB (A ++ B) q = (covB A q || covB B q) := by simp [covB]
theorem cov_canon (S : Nat → Prop) : ∀ (h n q : Nat), n * 4 ^ h ≤ q → q < (n + 1) * 4 ^ h → (covB (canon S h n) q = true ↔ S q)
  | h, n, q, h1, h2 => by
    constructor
    · intro hc
      obtain ⟨b, hb, b1, b2⟩ := covS.1 hc
      exact ((mem_canon S h n b.1 b.2).1 hb).2.2.1 q b1 b2
    · intro hS
      by_cases hf : full S h n
      · rw [canon_full hf]
        exact covS.2 ⟨(h, n), by simp, h1, h2⟩
      · match h, h1, h2, hf with
        | 0, h1, h2, hf =>
          exfalso
          simp at h1 h2
          have : q = n := by omega
          exact hf ((full_zero S n).2 (this ▸ hS))
        | h + 1, h1, h2, hf =>
          simp only [canon, hf, if_false, cov_app, Bool.or_eq_true]
          have e : ∀ m : Nat, m * 4 ^ (h + 1) = 4 * m * 4 ^ h := fun m => by rw [Nat.pow_succ]; rw [Nat.mul_comm 4 m, Nat.mul_assoc, Nat.mul_comm 4]
          rw [e] at h1 h2
          have e1 : (4 * n + 1) * 4 ^ h = 4 * n * 4 ^ h + 4 ^ h := by rw [Nat.add_mul]; omega
          have e2 : (4 * n + 2) * 4 ^ h = 4 * n * 4 ^ h + 2 * 4 ^ h := by rw [Nat.add_mul]
          have e3 : (4 * n + 3) * 4 ^ h = 4 * n * 4 ^ h + 3 * 4 ^ h := by rw [Nat.add_mul]
          have e4 : (4 * n + 1 + 1) * 4 ^ h = 4 * n * 4 ^ h + 2 * 4 ^ h := by rw [show 4 * n + 1 + 1 = 4 * n + 2 by omega, e2]
          have e5 : (4 * n + 2 + 1) * 4 ^ h = 4 * n * 4 ^ h + 3 * 4 ^ h := by rw [show 4 * n + 2 + 1 = 4 * n + 3 by omega, e3]
          have e6 : (4 * n + 3 + 1) * 4 ^ h = 4 * n * 4 ^ h + 4 * 4 ^ h := by rw [show 4 * n + 3 + 1 = 4 * n + 4 by omega, Nat.add_mul]
          have e7 : 4 * (n + 1) * 4 ^ h = 4 * n * 4 ^ h + 4 * 4 ^ h := by rw [show 4 * (n + 1) = 4 * n + 4 by omega, Nat.add_mul]
          by_cases c0 : q < (4 * n + 1) * 4 ^ h
          · exact .inl ((cov_canon S h (4 * n) q h1 c0).2 hS)
          · by_cases c1 : q < (4 * n + 1 + 1) * 4 ^ h
            · exact .inr (.inl ((cov_canon S h (4 * n + 1) q (by omega) c1).2 hS))
            · by_cases c2 : q < (4 * n + 2 + 1) * 4 ^ h
              · exact .inr (.inr (.inl ((cov_canon S h (4 * n + 2) q (by omega) c2).2 hS)))
              · exact .inr (.inr (.inr ((cov_canon S h (4 * n + 3) q (by omega) (by omega)).2 hS)))
theorem cov_canon_out (S : Nat → Prop) (h n q : Nat) (hq : ¬ (n * 4 ^ h ≤ q ∧ q < (n + 1) * 4 ^ h)) : covB (canon S h n) q = false := by
  rw [Bool.eq_false_iff]
  intro hc
  obtain ⟨b, hb, b1, b2⟩ := covS.1 hc
  obtain ⟨g1, g2⟩ := canon_in S h n b hb
  exact hq ⟨by omega, by omega⟩
/-- the region of a set -/
noncomputable def regB (s : Nat → Bool) : List Cl := canonC fun q => s q = true
theorem reg_v (s : Nat → Bool) : AllV (regB s) := by
  intro x hx
  obtain ⟨b, hb, rfl⟩ := List.mem_map.1 hx
  have key : ∀ n, n < 2 → b ∈ canon (fun q => s q = true) 16 n → Vl (cellB b) := by
    intro n hn hb
    obtain ⟨g1, g2, _⟩ := (mem_canon _ 16 n b.1 b.2).1 hb
    refine cellB_vl b g1 ?_
    have hp : 0 < 4 ^ (16 - b.1) := Nat.pow_pos (by omega)
    rw [← Nat.div_lt_iff_lt_mul hp]
    omega
  rcases List.mem_append.1 hb with hb | hb
  · exact key 0 (by omega) hb
  · exact key 1 (by omega) hb
end Go.Proofs.YtifdgdgfmjfbdaaGreat
namespace Go.Proofs.YtifdgdgfmjfbdaaGreat
open Canon
/-! ### points in boxes of cells -/
def lonIn (lo hi b : Int) : Bool := decide ((b - lo) % 21600000 ≤ hi - lo)
/-- whether a valid point is in the box of a cell -/
def ptB (x : Cl) (a b : Int) : Bool :=
  decide (edg x.2.1 x.1 - 5400000 ≤ a ∧ a ≤ edg (x.2.1 + 1) x.1 - 5400000) && (decide (a = 5400000) || decide (a = -5400000) || lonIn (edg x.2.2 x.1 - 10800000) (edg (x.2.2 + 1) x.1 - 10800000) b)
def conB (L : List Cl) (a b : Int) : Bool := L.any fun x => ptB x a b
theorem pw_nat (l : Nat) : pw (l : Int) = ((2 ^ l : Nat) : Int) := by simp [pw]
theorem pw_pos (l : Int) : 0 < pw l := by unfold pw; exact Int.pow_pos (by omega)
theorem pw_succ (l : Nat) : pw ((l + 1 : Nat) : Int) = 2 * pw (l : Int) := by
  rw [pw_nat, pw_nat, Nat.pow_succ]
  omega
theorem edg_even (i : Int) (l : Nat) : edg (2 * i) ((l + 1 : Nat) : Int) = edg i (l : Int) := by
  unfold edg
  rw [pw_succ, Int.mul_assoc, Int.mul_ediv_mul_of_pos _ _ (by omega)]
theorem edg_mono {i j : Int} (l : Int) (h : i ≤ j) : edg i l ≤ edg j l := by
  unfold edg
  exact Int.ediv_le_ediv (pw_pos l) (by omega)
theorem lon_split {lo mi hi b : Int} (h1 : lo ≤ mi) (h2 : mi ≤ hi) (h3 : hi - lo < 21600000) (h4 : -10800000 ≤ lo) (h5 : hi ≤ 10800000) (b1 : -10800000 ≤ b) (b2 : b < 10800000) : lonIn lo hi b = (lonIn lo mi b || lonIn mi hi b) := by
  unfold lonIn
  rw [Bool.eq_iff_iff, Bool.or_eq_true, decide_eq_true_eq, decide_eq_true_eq, decide_eq_true_eq]
  omega
theorem lat_split {lo mi hi a : Int} (h1 : lo ≤ mi) (h2 : mi ≤ hi) : decide (lo ≤ a ∧ a ≤ hi) = (decide (lo ≤ a ∧ a ≤ mi) || decide (mi ≤ a ∧ a ≤ hi)) := by
  rw [Bool.eq_iff_iff, Bool.or_eq_true, decide_eq_true_eq, decide_eq_true_eq, decide_eq_true_eq]
  omega
theorem pt_kids (l r c : Nat) (hl : l < 16) (hc : c < 2 * 2 ^ l) (a b : Int) (hv : vptB a b = true) :
    ptB ((l : Int), (r : Int), (c : Int)) a b = (ptB (((l + 1 : Nat) : Int), ((2 * r : Nat) : Int), ((2 * c : Nat) : Int)) a b || ptB (((l + 1 : Nat) : Int), ((2 * r : Nat) : Int), ((2 * c + 1 : Nat) : Int)) a b || ptB (((l + 1 : Nat) : Int), ((2 * r + 1 : Nat) : Int), ((2 * c : Nat) : Int)) a b || ptB (((l + 1 : Nat) : Int), ((2 * r + 1 : Nat) : Int), ((2 * c + 1 : Nat) : Int)) a b) := by
  obtain ⟨a1, a2, b1, b2⟩ := vptB_true.1 hv
  have hp := pw_nat l
  have r0 := edg_even (r : Int) l
  have r1 := edg_even ((r : Int) + 1) l
  have c0 := edg_even (c : Int) l
  have c1 := edg_even ((c : Int) + 1) l
  have m0 := edg_mono ((l + 1 : Nat) : Int) (show 2 * (r : Int) ≤ 2 * (r : Int) + 1 by omega)
  have m1 := edg_mono ((l + 1 : Nat) : Int) (show 2 * (r : Int) + 1 ≤ 2 * ((r : Int) + 1) by omega)
  have m2 := edg_mono ((l + 1 : Nat) : Int) (show 2 * (c : Int) ≤ 2 * (c : Int) + 1 by omega)
  have m3 := edg_mono ((l + 1 : Nat) : Int) (show 2 * (c : Int) + 1 ≤ 2 * ((c : Int) + 1) by omega)
  have d0 := edg_bd (i := (c : Int)) (l := (l : Int)) (by omega) (by omega) (by rw [hp]; omega)
  have d1 := edg_bd (i := (c : Int) + 1) (l := (l : Int)) (by omega) (by omega) (by rw [hp]; omega)
  have d2 : edg ((c : Int) + 1) l - edg c l < 21600000 := by
    unfold edg
    have : ((c : Int) + 1) * 10800000 / pw l ≤ (c : Int) * 10800000 / pw l + 10800001 := by
      rw [← Int.add_mul_ediv_right _ _ (show pw (l : Int) ≠ 0 by have := pw_pos (l : Int); omega)]
      refine Int.ediv_le_ediv (pw_pos l) ?_
      have := pw_pos (l : Int)
      omega
    omega
  have e1 : ((2 * r : Nat) : Int) = 2 * (r : Int) := by omega
  have e2 : ((2 * r + 1 : Nat) : Int) = 2 * (r : Int) + 1 := by omega
  have e3 : ((2 * c : Nat) : Int) = 2 * (c : Int) := by omega
  have e4 : ((2 * c + 1 : Nat) : Int) = 2 * (c : Int) + 1 := by omega
  have e5 : 2 * (r : Int) + 1 + 1 = 2 * ((r : Int) + 1) := by omega
  have e6 : 2 * (c : Int) + 1 + 1 = 2 * ((c : Int) + 1) := by omega
  unfold ptB
  simp only [e1, e2, e3, e4, e5, e6]
  rw [r0] at m0
  rw [r1] at m1
  rw [c0] at m2
  rw [c1] at m3
  rw [r0, r1, c0, c1]
  generalize edg (2 * (r : Int) + 1) ((l + 1 : Nat) : Int) = M at *
  generalize edg (2 * (c : Int) + 1) ((l + 1 : Nat) : Int) = N at *
  generalize edg (r : Int) (l : Int) = A at *
  generalize edg ((r : Int) + 1) (l : Int) = B at *
  generalize edg (c : Int) (l : Int) = C at *
  generalize edg ((c : Int) + 1) (l : Int) = D at *
  rw [lat_split (lo := A - 5400000) (mi := M - 5400000) (hi := B - 5400000) (by omega) (by omega), lon_split (lo := C - 10800000) (mi := N - 10800000) (hi := D - 10800000) (by omega) (by omega) (by omega) (by omega) (by omega) b1 b2]
  generalize decide (A - 5400000 ≤ a ∧ a ≤ M - 5400000) = x1
  generalize decide (M - 5400000 ≤ a ∧ a ≤ B - 5400000) = x2
  generalize lonIn (C - 10800000) (N - 10800000) b = y1
  generalize lonIn (N - 10800000) (D - 10800000) b = y2
  generalize (decide (a = 5400000) || decide (a = -5400000)) = p
  cases x1 <;> cases x2 <;> cases y1 <;> cases y2 <;> cases p <;> rfl
def fin (a b : Int) (q : Nat) : Bool := ptB (cellB (0, q)) a b
theorem cellN_kid (l n i : Nat) (hi : i < 4) : cellN (4 * n + i) (l + 1) = (((l + 1 : Nat) : Int), ((2 * rwTo l n + i / 2 : Nat) : Int), ((2 * colOf l n + i % 2 : Nat) : Int)) := by
  have e1 : (4 * n + i) / 4 = n := by omega
  have e2 : (4 * n + i) % 4 = i := by omega
  unfold cellN colOf
  rw [rwTo_low, clTo_low, e1, e2, Nat.pow_succ 4 l, Nat.mul_comm (4 ^ l) 4, ← Nat.div_div_eq_div_mul, e1, Nat.pow_succ 2 l]
  have : n / 4 ^ l * (2 ^ l * 2) = 2 * (n / 4 ^ l * 2 ^ l) := by rw [← Nat.mul_assoc, Nat.mul_comm]
  rw [this]
  have e3 : 2 * clTo l n + i % 2 + 2 * (n / 4 ^ l * 2 ^ l) = 2 * (clTo l n + n / 4 ^ l * 2 ^ l) + i % 2 := by omega
  rw [e3]
theorem pt_fin (a b : Int) (hv : vptB a b = true) : ∀ (h n : Nat), h ≤ 16 → n < 2 * 4 ^ (16 - h) → (ptB (cellB (h, n)) a b = true ↔ ∃ q, n * 4 ^ h ≤ q ∧ q < (n + 1) * 4 ^ h ∧ fin a b q = true)
  | 0, n, _, _ => by
    constructor
    · intro h
      exact ⟨n, by omega, by omega, h⟩
    · rintro ⟨q, h1, h2, h3⟩
      have : q = n := by omega
      rw [← this]
      exact h3
  | h + 1, n, hh, hn => by
    have el : 16 - h = (16 - (h + 1)) + 1 := by omega
    have hcol := colOf_lt (16 - (h + 1)) n hn
    have hk := pt_kids (16 - (h + 1)) (rwTo (16 - (h + 1)) n) (colOf (16 - (h + 1)) n) (by omega) hcol a b hv
    have hn4 : ∀ i, i < 4 → 4 * n + i < 2 * 4 ^ (16 - h) := by
      intro i hi
      rw [el, Nat.pow_succ]
      omega
    have k0 := cellN_kid (16 - (h + 1)) n 0 (by omega)
    have k1 := cellN_kid (16 - (h + 1)) n 1 (by omega)
    have k2 := cellN_kid (16 - (h + 1)) n 2 (by omega)
    have k3 := cellN_kid (16 - (h + 1)) n 3 (by omega)
    rw [← el] at k0 k1 k2 k3 hk
    have i0 := pt_fin a b hv h (4 * n) (by omega) (hn4 0 (by omega))
    have i1 := pt_fin a b hv h (4 * n + 1) (by omega) (hn4 1 (by omega))
    have i2 := pt_fin a b hv h (4 * n + 2) (by omega) (hn4 2 (by omega))
    have i3 := pt_fin a b hv h (4 * n + 3) (by omega) (hn4 3 (by omega))
    unfold cellB at i0 i1 i2 i3 ⊢
    simp only [] at i0 i1 i2 i3 ⊢
    have e0 : cellN n (16 - (h + 1)) = (((16 - (h + 1) : Nat) : Int), ((rwTo (16 - (h + 1)) n : Nat) : Int), ((colOf (16 - (h + 1)) n : Nat) : Int)) := rfl
    simp only [Nat.add_zero, Nat.zero_div, Nat.zero_mod, show 1 / 2 = 0 from rfl, show 1 % 2 = 1 from rfl, show 2 / 2 = 1 from rfl, show 2 % 2 = 0 from rfl, show 3 / 2 = 1 from rfl, show 3 % 2 = 1 from rfl] at k0 k1 k2 k3
    rw [e0, hk, ← k0, ← k1, ← k2, ← k3, Bool.or_eq_true, Bool.or_eq_true, Bool.or_eq_true, i0, i1, i2, i3]
    have e : ∀ m : Nat, m * 4 ^ (h + 1) = 4 * m * 4 ^ h := fun m => by rw [Nat.pow_succ]; rw [Nat.mul_comm 4 m, Nat.mul_assoc, Nat.mul_comm 4]
    rw [e, e]
    have e1 : (4 * n + 1) * 4 ^ h = 4 * n * 4 ^ h + 4 ^ h := by rw [Nat.add_mul]; omega
    have e2 : (4 * n + 2) * 4 ^ h = 4 * n * 4 ^ h + 2 * 4 ^ h := by rw [Nat.add_mul]
    have e3 : (4 * n + 3) * 4 ^ h = 4 * n * 4 ^ h + 3 * 4 ^ h := by rw [Nat.add_mul]
    have e4 : (4 * n + 1 + 1) * 4 ^ h = 4 * n * 4 ^ h + 2 * 4 ^ h := by rw [show 4 * n + 1 + 1 = 4 * n + 2 by omega, e2]
    have e5 : (4 * n + 2 + 1) * 4 ^ h = 4 * n * 4 ^ h + 3 * 4 ^ h := by rw [show 4 * n + 2 + 1 = 4 * n + 3 by omega, e3]
    have e6 : (4 * n + 3 + 1) * 4 ^ h = 4 * n * 4 ^ h + 4 * 4 ^ h := by rw [show 4 * n + 3 + 1 = 4 * n + 4 by omega, Nat.add_mul]
    have e7 : 4 * (n + 1) * 4 ^ h = 4 * n * 4 ^ h + 4 * 4 ^ h := by rw [show 4 * (n + 1) = 4 * n + 4 by omega, Nat.add_mul]
    rw [e4, e5, e6, e7, e1]
    generalize 4 * n * 4 ^ h = u
    generalize 4 ^ h = v
    constructor
    · rintro (((⟨q, h1, h2, h3⟩ | ⟨q, h1, h2, h3⟩) | ⟨q, h1, h2, h3⟩) | ⟨q, h1, h2, h3⟩) <;> exact ⟨q, by omega, by omega, h3⟩
    · rintro ⟨q, h1, h2, h3⟩
      by_cases c1 : q < u + v
      · exact .inl (.inl (.inl ⟨q, h1, c1, h3⟩))
      · by_cases c2 : q < u + 2 * v
        · exact .inl (.inl (.inr ⟨q, by omega, c2, h3⟩))
        · by_cases c3 : q < u + 3 * v
          · exact .inl (.inr ⟨q, by omega, c3, h3⟩)
          · exact .inr ⟨q, by omega, h2, h3⟩
theorem con_iff {L : List Cl} (hL : AllV L) (a b : Int) (hv : vptB a b = true) : conB L a b = true ↔ ∃ q, covB (L.map blkOf) q = true ∧ fin a b q = true := by
  unfold conB
  rw [List.any_eq_true]
  constructor
  · rintro ⟨x, hx, h⟩
    have h1 := blk_lt x (hL x hx)
    rw [← cellB_blkOf x (hL x hx), show blkOf x = ((blkOf x).1, (blkOf x).2) from rfl, pt_fin a b hv _ _ h1.1 h1.2] at h
    obtain ⟨q, q1, q2, q3⟩ := h
    exact ⟨q, covS.2 ⟨blkOf x, List.mem_map.2 ⟨x, hx, rfl⟩, q1, q2⟩, q3⟩
  · rintro ⟨q, hq, hf⟩
    obtain ⟨b', hb', b1, b2⟩ := covS.1 hq
    obtain ⟨x, hx, rfl⟩ := List.mem_map.1 hb'
    have h1 := blk_lt x (hL x hx)
    refine ⟨x, hx, ?_⟩
    rw [← cellB_blkOf x (hL x hx), show blkOf x = ((blkOf x).1, (blkOf x).2) from rfl, pt_fin a b hv _ _ h1.1 h1.2]
    exact ⟨q, b1, b2, hf⟩
theorem edg_all (l : Int) : edg (pw l) l = 10800000 := by
  unfold edg
  rw [Int.mul_comm, Int.mul_ediv_cancel _ (by have := pw_pos l; omega)]
end Go.Proofs.YtifdgdgfmjfbdaaGreat
namespace Go.Proofs.YtifdgdgfmjfbdaaGreat
open Canon
/-! ### no spans, no cells -/
theorem cov_canonC (S : Nat → Prop) (q : Nat) (hq : q < 2 * 4 ^ 16) : covB ((canonC S).map blkOf) q = true ↔ S q := by
  rw [canonC_blk, cov_app, Bool.or_eq_true]
  by_cases h0 : q < 4 ^ 16
  · have c0 := cov_canon S 16 0 q (by omega) (by omega)
    have c1 := cov_canon_out S 16 1 q (by omega)
    rw [c0, c1]
    simp
  · have c0 := cov_canon_out S 16 0 q (by omega)
    have c1 := cov_canon S 16 1 q (by omega) (by omega)
    rw [c0, c1]
    simp
end Go.Proofs.YtifdgdgfmjfbdaaGreat
namespace Go.Proofs.YtifdgdgfmjfbdaaGreat
open Canon
/-- the edges of the boxes of a cell and of its children -/
theorem box_nums {x : Cl} (hx : Vl x) : -5400000 ≤ edg x.2.1 x.1 - 5400000 ∧ edg x.2.1 x.1 ≤ edg (x.2.1 + 1) x.1 ∧ edg (x.2.1 + 1) x.1 - 5400000 ≤ 5400000 ∧ 0 ≤ edg x.2.2 x.1 ∧ edg x.2.2 x.1 < 21600000 ∧ edg x.2.2 x.1 ≤ edg (x.2.2 + 1) x.1 ∧ edg (x.2.2 + 1) x.1 ≤ 21600000 ∧ edg (x.2.2 + 1) x.1 - edg x.2.2 x.1 ≤ 10800001 := by
  obtain ⟨h0, h1, h2, h3, h4, h5⟩ := vldB_true.1 ((vl_iff x).2 hx)
  have hp := pw_pos x.1
  have hb := pw_bd h1
  have r0 := edg_bd (i := x.2.1) h1 h2 (by omega)
  have c0 := edg_bd (i := x.2.2) h1 h4 (by omega)
  have c1 := edg_bd (i := x.2.2 + 1) h1 (by omega) (by omega)
  have rm := edg_mono x.1 (show x.2.1 ≤ x.2.1 + 1 by omega)
  have cm := edg_mono x.1 (show x.2.2 ≤ x.2.2 + 1 by omega)
  have rt := edg_mono x.1 (show x.2.1 + 1 ≤ pw x.1 by omega)
  rw [edg_all] at rt
  have ct : edg x.2.2 x.1 < 21600000 := by
    unfold edg
    rw [Int.ediv_lt_iff_lt_mul hp]
    omega
  have cw : edg (x.2.2 + 1) x.1 - edg x.2.2 x.1 ≤ 10800001 := by
    unfold edg
    have : (x.2.2 + 1) * 10800000 / pw x.1 ≤ x.2.2 * 10800000 / pw x.1 + 10800001 := by
      rw [← Int.add_mul_ediv_right _ _ (show pw x.1 ≠ 0 by omega)]
      refine Int.ediv_le_ediv hp ?_
      omega
    omega
  omega
end Go.Proofs.YtifdgdgfmjfbdaaGreat
