/- The walk of place.around. -/
import Derived.Test.YtifdgdgfmjfbdaaGreatIJa
import Derived.Test.YtifdgdgfmjfbdaaGreatIBase
import Derived.Test.YtifdgdgfmjfbdaaGreatIWn
import Derived.Test.YtifdgdgfmjfbdaaGreatIWm
set_option linter.unusedVariables false
set_option linter.unusedSimpArgs false
namespace Go.Proofs.YtifdgdgfmjfbdaaGreat
open Canon
/-! ### which regions are tidy, for the reference -/
theorem mort_split (l r c k : Nat) (hk : k ≤ l) : mort k (r / 2 ^ (l - k)) (c / 2 ^ (l - k)) * 4 ^ (l - k) ≤ mort l r c ∧ mort l r c + 1 ≤ (mort k (r / 2 ^ (l - k)) (c / 2 ^ (l - k)) + 1) * 4 ^ (l - k) := by
  have h := mort_anc (l - k) l r c (by omega)
  rw [show l - (l - k) = k by omega] at h
  rw [← h]
  have hp : 0 < 4 ^ (l - k) := Nat.pow_pos (by omega)
  refine ⟨Nat.div_mul_le_self _ _, ?_⟩
  have := Nat.lt_mul_div_succ (mort l r c) hp
  rw [Nat.mul_comm] at this
  exact this
theorem before_of_mort {l r c l' r' c' k : Nat} (hk : k ≤ l) (hk' : k ≤ l') (hl : l ≤ 16) (hl' : l' ≤ 16) (h : mort k (r / 2 ^ (l - k)) (c / 2 ^ (l - k)) < mort k (r' / 2 ^ (l' - k)) (c' / 2 ^ (l' - k))) :
    (mort l r c + 1) * 4 ^ (16 - l) ≤ mort l' r' c' * 4 ^ (16 - l') := by
  have h1 := (mort_split l r c k hk).2
  have h2 := (mort_split l' r' c' k hk').1
  generalize mort k (r / 2 ^ (l - k)) (c / 2 ^ (l - k)) = u at *
  generalize mort k (r' / 2 ^ (l' - k)) (c' / 2 ^ (l' - k)) = v at *
  have e1 : 4 ^ (16 - k) = 4 ^ (l - k) * 4 ^ (16 - l) := by rw [← Nat.pow_add]; congr 1; omega
  have e2 : 4 ^ (16 - k) = 4 ^ (l' - k) * 4 ^ (16 - l') := by rw [← Nat.pow_add]; congr 1; omega
  calc (mort l r c + 1) * 4 ^ (16 - l) ≤ (u + 1) * 4 ^ (l - k) * 4 ^ (16 - l) := Nat.mul_le_mul_right _ h1
    _ = (u + 1) * 4 ^ (16 - k) := by rw [Nat.mul_assoc, ← e1]
    _ ≤ v * 4 ^ (16 - k) := Nat.mul_le_mul_right _ h
    _ = v * 4 ^ (l' - k) * 4 ^ (16 - l') := by rw [Nat.mul_assoc, ← e2]
    _ ≤ mort l' r' c' * 4 ^ (16 - l') := Nat.mul_le_mul_right _ h2
theorem anc_nat (r l k : Nat) : anc (r : Int) (l : Int) k = ((r / 2 ^ (l - k) : Nat) : Int) := by simp [anc]
theorem befF_spec (l r c l' r' c' : Nat) (hl : l ≤ 16) (hl' : l' ≤ 16) (hr : r < 2 ^ l) (hr' : r' < 2 ^ l') (n1 : wiB ((l : Int), (r : Int), (c : Int)) ((l' : Int), (r' : Int), (c' : Int)) = false) (n2 : wiB ((l' : Int), (r' : Int), (c' : Int)) ((l : Int), (r : Int), (c : Int)) = false) :
    ∀ f k : Nat, f + k = min l l' + 1 → (0 < k → r / 2 ^ (l - (k - 1)) = r' / 2 ^ (l' - (k - 1)) ∧ c / 2 ^ (l - (k - 1)) = c' / 2 ^ (l' - (k - 1))) →
      (befF ((l : Int), (r : Int), (c : Int)) ((l' : Int), (r' : Int), (c' : Int)) f k = true → (mort l r c + 1) * 4 ^ (16 - l) ≤ mort l' r' c' * 4 ^ (16 - l')) ∧
      (befF ((l : Int), (r : Int), (c : Int)) ((l' : Int), (r' : Int), (c' : Int)) f k = false → (mort l' r' c' + 1) * 4 ^ (16 - l') ≤ mort l r c * 4 ^ (16 - l)) := by
  intro f
  induction f with
  | zero =>
    intro k hk h
    exfalso
    obtain ⟨h1, h2⟩ := h (by omega)
    rw [show k - 1 = min l l' by omega] at h1 h2
    by_cases hll : l ≤ l'
    · rw [show min l l' = l by omega, Nat.sub_self, Nat.pow_zero, Nat.div_one] at h1 h2
      have : wiB ((l' : Int), (r' : Int), (c' : Int)) ((l : Int), (r : Int), (c : Int)) = true := by
        simp only [wiB, decide_eq_true_eq]
        have ed : ((l' : Int) - (l : Int)).toNat = l' - l := by omega
        rw [ed]
        refine ⟨by omega, ?_, ?_⟩
        · rw [h1]; simp
        · rw [h2]; simp
      rw [n2] at this
      exact Bool.noConfusion this
    · rw [show min l l' = l' by omega, Nat.sub_self, Nat.pow_zero, Nat.div_one] at h1 h2
      have : wiB ((l : Int), (r : Int), (c : Int)) ((l' : Int), (r' : Int), (c' : Int)) = true := by
        simp only [wiB, decide_eq_true_eq]
        have ed : ((l : Int) - (l' : Int)).toNat = l - l' := by omega
        rw [ed]
        refine ⟨by omega, ?_, ?_⟩
        · rw [← h1]; simp
        · rw [← h2]; simp
      rw [n1] at this
      exact Bool.noConfusion this
  | succ f ih =>
    intro k hk h
    have kl : k ≤ l := by omega
    have kl' : k ≤ l' := by omega
    unfold befF
    simp only [anc_nat]
    -- the ancestors of level k - 1 are halves
    have half : ∀ z m : Nat, 0 < k → k ≤ m → z / 2 ^ (m - (k - 1)) = z / 2 ^ (m - k) / 2 := by
      intro z m h0 hm
      rw [show m - (k - 1) = (m - k) + 1 by omega, Nat.pow_succ, Nat.div_div_eq_div_mul]
    have up : ∀ z m z' m' : Nat, k = 0 → m < 2 ^ l → m' < 2 ^ l' → m / 2 ^ (l - k) = m' / 2 ^ (l' - k) := by
      intro z m z' m' h0 hm hm'
      rw [h0, Nat.sub_zero, Nat.sub_zero, Nat.div_eq_of_lt hm, Nat.div_eq_of_lt hm']
    have hm0 : ∀ a b : Nat, mort 0 a b = b := fun a b => rfl
    have hB := before_of_mort (r := r) (c := c) (r' := r') (c' := c') kl kl' hl hl'
    have hB' := before_of_mort (r := r') (c := c') (r' := r) (c' := c) kl' kl hl' hl
    have hu0 := up 0 r 0 r'
    have hstep := fun h1 h2 => ih (k + 1) (by omega) (fun _ => ⟨h1, h2⟩)
    simp only [Nat.add_sub_cancel] at hstep
    have hh : 0 < k → r / 2 ^ (l - k) / 2 = r' / 2 ^ (l' - k) / 2 ∧ c / 2 ^ (l - k) / 2 = c' / 2 ^ (l' - k) / 2 := by
      intro h0
      obtain ⟨h1, h2⟩ := h h0
      rw [half r l h0 kl, half r' l' h0 kl'] at h1
      rw [half c l h0 kl, half c' l' h0 kl'] at h2
      exact ⟨h1, h2⟩
    have hu1 := fun h0 => hu0 h0 hr hr'
    clear h half up hu0 ih
    generalize r / 2 ^ (l - k) = a at *
    generalize r' / 2 ^ (l' - k) = a' at *
    generalize c / 2 ^ (l - k) = b at *
    generalize c' / 2 ^ (l' - k) = b' at *
    -- the numbers of the two ancestors
    have hlt : (a < a' ∨ (a = a' ∧ b < b')) → mort k a b < mort k a' b' := by
      intro hc
      rcases Nat.eq_zero_or_pos k with h0 | h0
      · have := hu1 h0
        rw [h0, hm0, hm0]
        omega
      · obtain ⟨h1, h2⟩ := hh h0
        obtain ⟨m, rfl⟩ : ∃ m, k = m + 1 := ⟨k - 1, by omega⟩
        simp only [mort]
        rw [h1, h2]
        omega
    have hgt : (a' < a ∨ (a = a' ∧ b' < b)) → mort k a' b' < mort k a b := by
      intro hc
      rcases Nat.eq_zero_or_pos k with h0 | h0
      · have := hu1 h0
        rw [h0, hm0, hm0]
        omega
      · obtain ⟨h1, h2⟩ := hh h0
        obtain ⟨m, rfl⟩ : ∃ m, k = m + 1 := ⟨k - 1, by omega⟩
        simp only [mort]
        rw [h1, h2]
        omega
    by_cases e1 : a = a'
    · rw [if_pos (by rw [e1])]
      by_cases e2 : b = b'
      · rw [if_pos (by rw [e2])]
        exact hstep e1 e2
      · rw [if_neg (by omega)]
        constructor
        · intro hd
          have hd := of_decide_eq_true hd
          exact hB (hlt (.inr ⟨e1, by omega⟩))
        · intro hd
          have hd := of_decide_eq_false hd
          exact hB' (hgt (.inr ⟨e1, by omega⟩))
    · rw [if_neg (by omega)]
      constructor
      · intro hd
        have hd := of_decide_eq_true hd
        exact hB (hlt (.inl (by omega)))
      · intro hd
        have hd := of_decide_eq_false hd
        exact hB' (hgt (.inl (by omega)))
theorem befB_spec {x y : Cl} (hx : Vl x) (hy : Vl y) (n1 : wiB x y = false) (n2 : wiB y x = false) : (befB x y = true → before2 (blkOf x) (blkOf y)) ∧ (befB x y = false → before2 (blkOf y) (blkOf x)) := by
  obtain ⟨l, r, c⟩ := x
  obtain ⟨l', r', c'⟩ := y
  obtain ⟨a0, a1, a2, a3, a4, a5⟩ := hx
  obtain ⟨b0, b1, b2, b3, b4, b5⟩ := hy
  simp only [] at *
  obtain ⟨l, rfl⟩ := Int.eq_ofNat_of_zero_le a0
  obtain ⟨r, rfl⟩ := Int.eq_ofNat_of_zero_le a2
  obtain ⟨c, rfl⟩ := Int.eq_ofNat_of_zero_le a4
  obtain ⟨l', rfl⟩ := Int.eq_ofNat_of_zero_le b0
  obtain ⟨r', rfl⟩ := Int.eq_ofNat_of_zero_le b2
  obtain ⟨c', rfl⟩ := Int.eq_ofNat_of_zero_le b4
  simp only [Int.toNat_natCast] at *
  have h := befF_spec l r c l' r' c' (by omega) (by omega) a3 b3 n1 n2 (min l l' + 1) 0 (by omega) (by omega)
  have e : (min (l : Int) (l' : Int)).toNat = min l l' := by omega
  unfold befB before2 blkOf mortI
  simp only [e, Int.toNat_natCast]
  exact h
/-- what the reference asks of two cells side by side -/
def pairOk (x y : Cl) : Bool := !wiB y x && !wiB x y && befB x y
theorem ins_bounds {a b : Blk2} (h : insB a b.1 b.2 = true) : b.2 * 4 ^ b.1 ≤ a.2 * 4 ^ a.1 ∧ (a.2 + 1) * 4 ^ a.1 ≤ (b.2 + 1) * 4 ^ b.1 := by
  have hle : a.1 ≤ b.1 := by simp only [insB, decide_eq_true_eq] at h; exact h.1
  exact (ins_iff hle).1 h
theorem pairOk_iff {x y : Cl} (hx : Vl x) (hy : Vl y) : pairOk x y = true ↔ before2 (blkOf x) (blkOf y) := by
  have px := blk_pos (blkOf x)
  have py := blk_pos (blkOf y)
  unfold pairOk
  constructor
  · intro h
    simp only [Bool.and_eq_true, Bool.not_eq_true'] at h
    exact (befB_spec hx hy h.1.2 h.1.1).1 h.2
  · intro h
    have n1 : wiB y x = false := by
      cases hw : wiB y x with
      | false => rfl
      | true =>
        rw [wiB_ins hy hx] at hw
        have := ins_bounds hw
        unfold before2 at h
        omega
    have n2 : wiB x y = false := by
      cases hw : wiB x y with
      | false => rfl
      | true =>
        rw [wiB_ins hx hy] at hw
        have := ins_bounds hw
        unfold before2 at h
        omega
    rw [n1, n2]
    cases hb : befB x y with
    | true => rfl
    | false =>
      have := (befB_spec hx hy n2 n1).2 hb
      unfold before2 at h this
      omega
/-- what the reference asks of four cells side by side -/
def fourOk (x y z u : Cl) : Bool := !(decide (0 < u.1) && broB x y z u)
def PairsTo (L : List Cl) (k : Nat) : Prop := ∀ i, i + 1 < k → pairOk (gt L i) (gt L (i + 1)) = true
def FoursTo (L : List Cl) (k : Nat) : Prop := ∀ i, i + 3 < k → fourOk (gt L i) (gt L (i + 1)) (gt L (i + 2)) (gt L (i + 3)) = true
open Classical in
theorem chain_pairwise : ∀ {L : List Cl}, (∀ i, i + 1 < L.length → before2 (blkOf (gt L i)) (blkOf (gt L (i + 1)))) → (L.map blkOf).Pairwise before2
  | [], _ => by simp
  | [x], _ => by simp
  | x :: y :: L, h => by
    have h2 := chain_pairwise (L := y :: L) (fun i hi => by
      have := h (i + 1) (by simp only [List.length_cons] at hi ⊢; omega)
      simpa [gt] using this)
    have h0 : before2 (blkOf x) (blkOf y) := by simpa [gt] using h 0 (by simp)
    rw [List.map_cons, List.pairwise_cons]
    refine ⟨fun b hb => ?_, h2⟩
    rw [List.map_cons, List.mem_cons] at hb
    rcases hb with rfl | hb
    · exact h0
    · rw [List.map_cons, List.pairwise_cons] at h2
      have := h2.1 b hb
      have hp := blk_pos (blkOf y)
      unfold before2 at *
      omega
theorem pairwise_gt {L : List Cl} (h : (L.map blkOf).Pairwise before2) (i : Nat) (hi : i + 1 < L.length) : before2 (blkOf (gt L i)) (blkOf (gt L (i + 1))) := by
  rw [List.pairwise_map] at h
  have := (List.pairwise_iff_getElem.1 h) i (i + 1) (by omega) hi (by omega)
  simpa [gt, hi, show i < L.length by omega] using this
theorem gt_v {L : List Cl} (hL : AllV L) {i : Nat} (hi : i < L.length) : Vl (gt L i) := hL _ (by simp [gt, hi])
theorem pairs_iff {L : List Cl} (hL : AllV L) : PairsTo L L.length ↔ (L.map blkOf).Pairwise before2 := by
  constructor
  · intro h
    exact chain_pairwise fun i hi => (pairOk_iff (gt_v hL (by omega)) (gt_v hL hi)).1 (h i hi)
  · intro h i hi
    exact (pairOk_iff (gt_v hL (by omega)) (gt_v hL hi)).2 (pairwise_gt h i hi)
theorem bro_true {x y z u : Cl} (hx : Vl x) (hy : Vl y) (hz : Vl z) (hu : Vl u) : (decide (0 < u.1) && broB x y z u) = true ↔ ∃ h n, h < 16 ∧ [x, y, z, u].map blkOf = kidsB h n := by
  constructor
  · intro h
    rw [Bool.and_eq_true, decide_eq_true_eq] at h
    obtain ⟨_, h⟩ := h
    unfold broB at h
    by_cases hx0 : x.1 = 0
    · rw [if_pos hx0] at h
      exact Bool.noConfusion h
    · rw [if_neg hx0] at h
      simp only [Bool.and_eq_true, ceq_true] at h
      obtain ⟨⟨⟨e1, e2⟩, e3⟩, e4⟩ := h
      have hp : Vl (x.1 - 1, x.2.1 / 2, x.2.2 / 2) := by
        obtain ⟨a0, a1, a2, a3, a4, a5⟩ := hx
        have e : x.1.toNat = (x.1 - 1).toNat + 1 := by omega
        rw [e, Nat.pow_succ] at a3 a5
        constructor <;> simp only [] <;> omega
      have hk := kids_blk hp (by have := hx.l1; simp only []; omega)
      refine ⟨(blkOf (x.1 - 1, x.2.1 / 2, x.2.2 / 2)).1 - 1, (blkOf (x.1 - 1, x.2.1 / 2, x.2.2 / 2)).2, ?_, ?_⟩
      · have := (blk_lt _ hp).1
        have h16 : (blkOf (x.1 - 1, x.2.1 / 2, x.2.2 / 2)).1 = 16 - (x.1 - 1).toNat := rfl
        omega
      · rw [← hk]
        show [blkOf x, blkOf y, blkOf z, blkOf u] = [blkOf (gt (kids (x.1 - 1) (x.2.1 / 2) (x.2.2 / 2)) 0), blkOf (gt (kids (x.1 - 1) (x.2.1 / 2) (x.2.2 / 2)) 1), blkOf (gt (kids (x.1 - 1) (x.2.1 / 2) (x.2.2 / 2)) 2), blkOf (gt (kids (x.1 - 1) (x.2.1 / 2) (x.2.2 / 2)) 3)]
        rw [← e1, ← e2, ← e3, ← e4]
  · rintro ⟨h, n, hh, he⟩
    have hux : blkOf x = (h, 4 * n) ∧ blkOf u = (h, 4 * n + 3) := by
      simp only [List.map_cons, List.map_nil, kidsB, List.cons.injEq, and_true] at he
      exact ⟨he.1, he.2.2.2⟩
    have hlt := (blk_lt u hu).2
    rw [hux.2] at hlt
    simp only [] at hlt
    have hpv : Vl (cellB (h + 1, n)) := by
      refine cellB_vl _ (by simp only []; omega) ?_
      simp only []
      rw [show 16 - h = (16 - (h + 1)) + 1 by omega, Nat.pow_succ] at hlt
      omega
    have hb := blkOf_cellB (h + 1, n) (by simp only []; omega)
    have hl : (cellB (h + 1, n)).1 < 16 := by
      simp only [cellB, cellN]
      omega
    have hk := kids_blk hpv hl
    rw [hb] at hk
    simp only [Nat.add_sub_cancel] at hk
    have e : [x, y, z, u] = kidsC (cellB (h + 1, n)) := by
      have hv : AllV [x, y, z, u] := by
        intro v hv
        simp only [List.mem_cons, List.not_mem_nil, or_false] at hv
        rcases hv with rfl | rfl | rfl | rfl <;> assumption
      rw [← map_blk_back hv, ← map_blk_back (kids_vl hpv hl), he, hk]
    generalize cellB (h + 1, n) = p at *
    obtain ⟨pl, pr, pc⟩ := p
    simp only [kidsC, kids, List.cons.injEq, and_true] at e
    obtain ⟨rfl, rfl, rfl, rfl⟩ := e
    have hp0 := hpv.l0
    simp only [] at hp0
    have q1 : pl + 1 - 1 = pl := by omega
    have q2 : 2 * pr / 2 = pr := by omega
    have q3 : 2 * pc / 2 = pc := by omega
    have q4 : ¬ pl + 1 = 0 := by omega
    rw [Bool.and_eq_true, decide_eq_true_eq]
    refine ⟨by simp only []; omega, ?_⟩
    simp only [broB, q1, q2, q3, q4, if_false, kids, gt, List.getD_cons_zero, List.getD_cons_succ, ceq, decide_true, Bool.and_self]
theorem gt_drop (L : List Cl) (i : Nat) (h : i + 3 < L.length) : ∃ pre suf, L = pre ++ ([gt L i, gt L (i + 1), gt L (i + 2), gt L (i + 3)] ++ suf) ∧ pre.length = i := by
  refine ⟨L.take i, L.drop (i + 4), ?_, by simp; omega⟩
  have e : ∀ j, j < L.length → L.drop j = gt L j :: L.drop (j + 1) := fun j hj => by
    rw [List.drop_eq_getElem_cons hj]
    simp [gt, hj]
  have := (List.take_append_drop i L).symm
  rw [e i (by omega), e (i + 1) (by omega), e (i + 2) (by omega), e (i + 3) (by omega)] at this
  exact this
theorem gt_at (pre : List Cl) (x y z u : Cl) (suf : List Cl) : gt (pre ++ ([x, y, z, u] ++ suf)) pre.length = x ∧ gt (pre ++ ([x, y, z, u] ++ suf)) (pre.length + 1) = y ∧ gt (pre ++ ([x, y, z, u] ++ suf)) (pre.length + 2) = z ∧ gt (pre ++ ([x, y, z, u] ++ suf)) (pre.length + 3) = u := by
  refine ⟨?_, ?_, ?_, ?_⟩ <;> simp [gt, List.getD_eq_getElem?_getD]
theorem fours_iff {L : List Cl} (hL : AllV L) : FoursTo L L.length ↔ NoFour (L.map blkOf) := by
  constructor
  · intro h k n pre suf he hk
    obtain ⟨P1, R, rfl, h1, h2⟩ := List.map_eq_append_iff.1 he
    obtain ⟨Q, S, rfl, h3, h4⟩ := List.map_eq_append_iff.1 h2
    have hlen : Q.length = 4 := by
      have := congrArg List.length h3
      simpa [kidsB] using this
    match Q, hlen with
    | [x, y, z, u], _ =>
      have hi := h P1.length (by simp only [List.length_append, List.length_cons, List.length_nil]; omega)
      obtain ⟨g0, g1, g2, g3⟩ := gt_at P1 x y z u S
      rw [g0, g1, g2, g3] at hi
      have hv : ∀ w ∈ [x, y, z, u], Vl w := fun w hw => hL w (by simp only [List.mem_append]; exact .inr (.inl hw))
      have := (bro_true (hv x (by simp)) (hv y (by simp)) (hv z (by simp)) (hv u (by simp))).2 ⟨k, n, hk, h3⟩
      unfold fourOk at hi
      rw [this] at hi
      exact Bool.noConfusion hi
  · intro h i hi
    obtain ⟨pre, suf, he, _⟩ := gt_drop L i hi
    unfold fourOk
    cases hb : (decide (0 < (gt L (i + 3)).1) && broB (gt L i) (gt L (i + 1)) (gt L (i + 2)) (gt L (i + 3))) with
    | false => rfl
    | true =>
      exfalso
      obtain ⟨k, n, hk, hm⟩ := (bro_true (gt_v hL (by omega)) (gt_v hL (by omega)) (gt_v hL (by omega)) (gt_v hL (by omega))).1 hb
      refine h k n (pre.map blkOf) (suf.map blkOf) ?_ hk
      conv => lhs; rw [he]
      rw [List.map_append, List.map_append, hm]
theorem allV_of {L : List Cl} (h : badL L = false) : AllV L := fun x hx => (vl_iff x).1 (badL_false h x hx)
theorem canonC_blk (S : Nat → Prop) : (canonC S).map blkOf = canon S 16 0 ++ canon S 16 1 := by
  unfold canonC
  rw [List.map_map]
  conv => rhs; rw [← List.map_id (canon S 16 0 ++ canon S 16 1)]
  refine List.map_congr_left fun b hb => blkOf_cellB b ?_
  rw [List.mem_append] at hb
  rcases hb with hb | hb <;> exact canon_h16 (Nat.le_refl _) b hb
theorem canon2_sorted (S : Nat → Prop) : (canon S 16 0 ++ canon S 16 1).Pairwise before2 := by
  rw [List.pairwise_append]
  refine ⟨canon_sorted _ _ _, canon_sorted _ _ _, fun x hx y hy => ?_⟩
  have h1 := (canon_in _ 16 0 x hx).2
  have h2 := (canon_in _ 16 1 y hy).1
  unfold before2
  omega
/-- a list of valid cells is tidy exactly if it is the list of the greatest cells of what it covers -/
theorem tidy_iff {L : List Cl} (hL : AllV L) : canonC (covL L) = L ↔ (PairsTo L L.length ∧ FoursTo L L.length) := by
  rw [pairs_iff hL, fours_iff hL]
  constructor
  · intro h
    have h2 := canonC_blk (covL L)
    rw [h] at h2
    rw [h2]
    exact ⟨canon2_sorted _, canon_no_four _⟩
  · rintro ⟨h1, h2⟩
    have hb : ∀ b ∈ L.map blkOf, b.1 ≤ 16 ∧ b.2 / 4 ^ (16 - b.1) < 2 := by
      intro b hb
      obtain ⟨x, hx, rfl⟩ := List.mem_map.1 hb
      obtain ⟨g1, g2⟩ := blk_lt x (hL x hx)
      refine ⟨g1, ?_⟩
      rw [Nat.div_lt_iff_lt_mul (Nat.pow_pos (by omega))]
      exact g2
    have h := tidy_is_canon h1 h2 hb
    have e : canonC (covL L) = canonC (fun q => covB (L.map blkOf) q = true) := canonC_congr fun q => (covB_map L q).symm
    rw [e]
    unfold canonC
    rw [← h]
    exact map_blk_back hL
theorem vrB_iff (L : List Cl) : vrB L = true ↔ (L.length ≤ 4000 ∧ AllV L ∧ canonC (covL L) = L) := by
  unfold vrB
  cases hb : badL L with
  | true =>
    simp only [Bool.not_true, Bool.and_false, Bool.false_and]
    constructor
    · intro h; exact Bool.noConfusion h
    · rintro ⟨_, h, _⟩
      exfalso
      unfold badL at hb
      rw [List.any_eq_true] at hb
      obtain ⟨x, hx, h2⟩ := hb
      have := (vl_iff x).2 (h x hx)
      rw [this] at h2
      exact Bool.noConfusion h2
  | false =>
    have hL := allV_of hb
    rw [tidy_cover L (badL_false hb), Bool.and_eq_true, Bool.and_eq_true, decide_eq_true_eq, decide_eq_true_eq]
    exact ⟨fun h => ⟨h.1.1, hL, h.2⟩, fun h => ⟨⟨h.1, rfl⟩, h.2.2⟩⟩
end Go.Proofs.YtifdgdgfmjfbdaaGreat
namespace Go.Proofs.YtifdgdgfmjfbdaaGreat
open Canon
/-- the region of a set -/
noncomputable def regB (s : Nat → Bool) : List Cl := canonC fun q => s q = true
theorem reg_v (s : Nat → Bool) : AllV (regB s) := by
  intro x hx
  obtain ⟨b, hb, rfl⟩ := List.mem_map.1 hx
  have key : ∀ n, n < 2 → b ∈ canon (fun q => s q = true) 16 n → Vl (cellB b) := by
    intro n hn hb
    obtain ⟨g1, g2, _⟩ := (mem_canon _ 16 n b.1 b.2).1 hb
    refine cellB_vl b g1 ?_
    have hp : 0 < 4 ^ (16 - b.1) := Nat.pow_pos (by omega)
    rw [← Nat.div_lt_iff_lt_mul hp]
    omega
  rcases List.mem_append.1 hb with hb | hb
  · exact key 0 (by omega) hb
  · exact key 1 (by omega) hb
end Go.Proofs.YtifdgdgfmjfbdaaGreat
namespace Go.Proofs.YtifdgdgfmjfbdaaGreat
open Canon
/-! ### points in boxes of cells -/
def lonIn (lo hi b : Int) : Bool := decide ((b - lo) % 21600000 ≤ hi - lo)
/-- whether a valid point is in the box of a cell -/
def ptB (x : Cl) (a b : Int) : Bool :=
  decide (edg x.2.1 x.1 - 5400000 ≤ a ∧ a ≤ edg (x.2.1 + 1) x.1 - 5400000) && (decide (a = 5400000) || decide (a = -5400000) || lonIn (edg x.2.2 x.1 - 10800000) (edg (x.2.2 + 1) x.1 - 10800000) b)
def conB (L : List Cl) (a b : Int) : Bool := L.any fun x => ptB x a b
theorem pw_pos (l : Int) : 0 < pw l := by unfold pw; exact Int.pow_pos (by omega)
theorem edg_mono {i j : Int} (l : Int) (h : i ≤ j) : edg i l ≤ edg j l := by
  unfold edg
  exact Int.ediv_le_ediv (pw_pos l) (by omega)
def fin (a b : Int) (q : Nat) : Bool := ptB (cellB (0, q)) a b
/-! ### one cell -/
theorem one_vr {x : Cl} (hx : Vl x) : vrB [x] = true := by
  have hL : AllV [x] := fun y hy => by rw [List.mem_singleton] at hy; rw [hy]; exact hx
  refine (vrB_iff _).2 ⟨by simp, hL, (tidy_iff hL).2 ⟨?_, ?_⟩⟩
  · intro i hi
    simp at hi
  · intro i hi
    simp at hi
theorem edg_all (l : Int) : edg (pw l) l = 10800000 := by
  unfold edg
  rw [Int.mul_comm, Int.mul_ediv_cancel _ (by have := pw_pos l; omega)]
end Go.Proofs.YtifdgdgfmjfbdaaGreat
namespace Go.Proofs.YtifdgdgfmjfbdaaGreat
open Canon
/-- the edges of the boxes of a cell and of its children -/
theorem box_nums {x : Cl} (hx : Vl x) : -5400000 ≤ edg x.2.1 x.1 - 5400000 ∧ edg x.2.1 x.1 ≤ edg (x.2.1 + 1) x.1 ∧ edg (x.2.1 + 1) x.1 - 5400000 ≤ 5400000 ∧ 0 ≤ edg x.2.2 x.1 ∧ edg x.2.2 x.1 < 21600000 ∧ edg x.2.2 x.1 ≤ edg (x.2.2 + 1) x.1 ∧ edg (x.2.2 + 1) x.1 ≤ 21600000 ∧ edg (x.2.2 + 1) x.1 - edg x.2.2 x.1 ≤ 10800001 := by
  obtain ⟨h0, h1, h2, h3, h4, h5⟩ := vldB_true.1 ((vl_iff x).2 hx)
  have hp := pw_pos x.1
  have hb := pw_bd h1
  have r0 := edg_bd (i := x.2.1) h1 h2 (by omega)
  have c0 := edg_bd (i := x.2.2) h1 h4 (by omega)
  have c1 := edg_bd (i := x.2.2 + 1) h1 (by omega) (by omega)
  have rm := edg_mono x.1 (show x.2.1 ≤ x.2.1 + 1 by omega)
  have cm := edg_mono x.1 (show x.2.2 ≤ x.2.2 + 1 by omega)
  have rt := edg_mono x.1 (show x.2.1 + 1 ≤ pw x.1 by omega)
  rw [edg_all] at rt
  have ct : edg x.2.2 x.1 < 21600000 := by
    unfold edg
    rw [Int.ediv_lt_iff_lt_mul hp]
    omega
  have cw : edg (x.2.2 + 1) x.1 - edg x.2.2 x.1 ≤ 10800001 := by
    unfold edg
    have : (x.2.2 + 1) * 10800000 / pw x.1 ≤ x.2.2 * 10800000 / pw x.1 + 10800001 := by
      rw [← Int.add_mul_ediv_right _ _ (show pw x.1 ≠ 0 by omega)]
      refine Int.ediv_le_ediv hp ?_
      omega
    omega
  omega
end Go.Proofs.YtifdgdgfmjfbdaaGreat
namespace Go.Proofs.YtifdgdgfmjfbdaaGreat
open Go.RowKit
def peq (a b c d a' b' c' d' : Int) : Bool := decide (a = a' ∧ b = b' ∧ c = c' ∧ d = d')
theorem equalInPlace (a b c d a' b' c' d' : Int) (w : World) : (Op.equalIn 10000 31 (.agg #[.int .i64 a, .int .i64 b, .int .i64 c, .int .i64 d]) (.agg #[.int .i64 a', .int .i64 b', .int .i64 c', .int .i64 d'])).run Tryz.prog w = .ok (peq a b c d a' b' c' d') w := by
  have u3 := Tryz.underlying3
  have a3 := Tryz.isAgg3
  have z3 := Tryz.sizeOf3
  have hS : Tryz.prog.underlying 31 = some (.struct (Tryz.prog.fieldsOf 31)) := by kernel_rfl
  have hp : Tryz.prog.stoodInHeld 31 = false := by kernel_rfl
  have hS2 : Tryz.prog.underlying 29 = some (.struct (Tryz.prog.fieldsOf 29)) := by kernel_rfl
  have hp2 : Tryz.prog.stoodInHeld 29 = false := by kernel_rfl
  have hA : ∀ (x y x' y' : Int) (w : World), (Op.equalIn 9999 29 (.agg #[.int .i64 x, .int .i64 y]) (.agg #[.int .i64 x', .int .i64 y'])).run Tryz.prog w = .ok (decide (x = x' ∧ y = y')) w := by
    intro x y x' y' w
    rw [show (9999 : Nat) = 9998 + 1 from rfl, run_equalIn_agg w 9998 29 _ _ hS2 hp2]
    simp only [Program.fieldsOf, Tryz.underlying29]
    go_simp
    by_cases h1 : x = x' <;> by_cases h2 : y = y' <;> simp [h1, h2]
  rw [show (10000 : Nat) = 9999 + 1 from rfl, run_equalIn_agg w 9999 31 _ _ hS hp]
  simp only [Program.fieldsOf, Tryz.underlying31]
  go_simp
  by_cases h1 : a = a' <;> by_cases h2 : b = b' <;> by_cases h3 : c = c' <;> by_cases h4 : d = d' <;> simp [peq, h1, h2, h3, h4]
theorem eqlPlace (a b c d a' b' c' d' : Int) (w : World) : (binOp .eql 31 (.agg #[.int .i64 a, .int .i64 b, .int .i64 c, .int .i64 d]) (.agg #[.int .i64 a', .int .i64 b', .int .i64 c', .int .i64 d'])).run Tryz.prog w = .ok (.bool (peq a b c d a' b' c' d')) w := by
  rw [run_eql_struct, equalInPlace]; rfl
theorem reads_new3 (w : World) (a b c : Int) (t : TypeId) (B : Nat) (hB : w.heap.size < B) : Reads (w.alloc (.cells #[.int .i64 a, .int .i64 b, .int .i64 c] t)) B 3 (some ⟨w.heap.size, 0, none⟩) 1 (cvs [(a, b, c)]) := (reads_new w a b c t).more hB

end Go.Proofs.YtifdgdgfmjfbdaaGreat
namespace Go.Proofs.YtifdgdgfmjfbdaaGreat
open Go.RowKit
def aeq (a b a' b' : Int) : Bool := decide (a = a' ∧ b = b')
theorem equalInArc (a b a' b' : Int) (w : World) : (Op.equalIn 10000 29 (.agg #[.int .i64 a, .int .i64 b]) (.agg #[.int .i64 a', .int .i64 b'])).run Tryz.prog w = .ok (aeq a b a' b') w := by
  have u3 := Tryz.underlying3
  have a3 := Tryz.isAgg3
  have z3 := Tryz.sizeOf3
  have hS : Tryz.prog.underlying 29 = some (.struct (Tryz.prog.fieldsOf 29)) := by kernel_rfl
  have hp : Tryz.prog.stoodInHeld 29 = false := by kernel_rfl
  rw [show (10000 : Nat) = 9999 + 1 from rfl, run_equalIn_agg w 9999 29 _ _ hS hp]
  simp only [Program.fieldsOf, Tryz.underlying29]
  go_simp
  by_cases h1 : a = a' <;> by_cases h2 : b = b' <;> simp [aeq, h1, h2]
theorem eqlArc (a b a' b' : Int) (w : World) : (binOp .eql 29 (.agg #[.int .i64 a, .int .i64 b]) (.agg #[.int .i64 a', .int .i64 b'])).run Tryz.prog w = .ok (.bool (aeq a b a' b')) w := by
  rw [run_eql_struct, equalInArc]; rfl
theorem tmod_cases (n : Int) : (0 ≤ n ∧ n.tmod 21600000 = n % 21600000) ∨ (n < 0 ∧ n.tmod 21600000 = -((-n) % 21600000)) := by
  by_cases h : 0 ≤ n
  · exact .inl ⟨h, Int.tmod_eq_emod_of_nonneg h⟩
  · refine .inr ⟨by omega, ?_⟩
    have h1 : (-n).tmod 21600000 = (-n) % 21600000 := Int.tmod_eq_emod_of_nonneg (by omega)
    rw [Int.neg_tmod] at h1
    omega
theorem tmod_pos {n : Int} (h : 0 ≤ n.tmod 21600000) : n.tmod 21600000 = n % 21600000 := by
  rcases tmod_cases n with ⟨h1, h2⟩ | ⟨h1, h2⟩ <;> omega
theorem tmod_neg {n : Int} (h : n.tmod 21600000 < 0) : n.tmod 21600000 + 21600000 = n % 21600000 := by
  rcases tmod_cases n with ⟨h1, h2⟩ | ⟨h1, h2⟩ <;> omega
theorem everywhere_any (w : World) : Calls Tryz.prog 198 #[] w fun e w' => e = .returned (.agg #[.int .i64 (-10800000), .int .i64 10800000]) ∧ Below w.heap.size w w' := by
  go_enter Tryz.func198, Tryz.ntmps198
  go_wp2
  refine bodyPost_ret (v := .agg #[.int .i64 (-10800000), .int .i64 10800000]) (by simp [results, Tryz.results198, go_sem]) rfl ⟨rfl, ?_⟩
  repeat (first | exact Below.refl _ _ | assumption | refine bl_drew ?_ | refine bl_drewN ?_ _ | refine Below.setCell ?_ (by first | assumption | omega | (simp; done) | (simp; omega)) _ | refine Below.alloc ?_ (by first | assumption | omega | (simp; done) | (simp; omega)) _)
/-- a world that left what was there alone -/
structure BV (w0 : World) where
  w : World
  hb : Below w0.heap.size w0 w
instance bvSome (w0 : World) : Nonempty (BV w0) := ⟨⟨w0, Below.refl _ _⟩⟩
theorem wp_region_bv {P : Program} {id : Nat} {Q : Exit → Act → World → Prop} {a : Act} {w : World} {l : List Oper} (w0 : World) (hm : P.follows .mixedOrders = true) (hB : Region.lexB .any l.toArray = true) (h0 : Below w0.heap.size w0 w)
    (h : wpQuiet P l.toArray (fun w' => ∃ s : BV w0, w' = s.w) (fun a' => ∀ w9, Below w0.heap.size w0 w9 → Q .normal a' w9) l a) : (Code.region id l.toArray true).wp P Q a w := by
  have e : (fun a' => ∀ w9, Below w0.heap.size w0 w9 → Q .normal a' w9) = (fun a' : Act => ∀ w', (∃ s : BV w0, w' = s.w) → Q .normal a' w') :=
    funext fun a' => propext ⟨fun h w' ⟨s, hs⟩ => hs ▸ h s.w s.hb, fun h w9 hb => h w9 ⟨⟨w9, hb⟩, rfl⟩⟩
  rw [e] at h
  exact wp_region_quiet (C := fun w' => ∃ s : BV w0, w' = s.w) hm hB ⟨⟨_, bl_drew h0⟩, rfl⟩ (by simpa using h)
theorem quiet_bv {P : Program} {f : FuncId} {args : Array Value} {w0 : World} {s : BV w0} {v : Value} (h : Calls P f args s.w fun e w' => e = .returned v ∧ Below s.w.heap.size s.w w') :
    Calls P f args s.w fun e w'' => e = .returned v ∧ ∃ s' : BV w0, w'' = s'.w :=
  h.mono fun _ w' ⟨he, hb⟩ => ⟨he, ⟨w', s.hb.trans (hb.mono s.hb.size)⟩, rfl⟩
set_option maxHeartbeats 400000 in
theorem all_any (x y : Int) (w : World) : Calls Tryz.prog 134 #[.agg #[.int .i64 x, .int .i64 y]] w fun e w' => e = .returned (.bool (aeq x y (-10800000) 10800000)) ∧ Below w.heap.size w w' := by
  have K := Lib.hid everywhere_any
  have hq := eqlArc
  go_enter Tryz.func134, Tryz.ntmps134
  go_upto_region 1 with fail
  have b0 := bl_alloc w (.cells #[.int .i64 x, .int .i64 y] 29)
  have x1 : ∀ s : BV (w.alloc (.cells #[.int .i64 x, .int .i64 y] 29)), s.w.cell? ⟨w.heap.size, 0, none⟩ = some (.int .i64 x) := fun s => (s.hb.cell (p := ⟨w.heap.size, 0, none⟩) (by simp)).trans (by simp)
  have x2 : ∀ s : BV (w.alloc (.cells #[.int .i64 x, .int .i64 y] 29)), s.w.cell? ⟨w.heap.size, 1, none⟩ = some (.int .i64 y) := fun s => (s.hb.cell (p := ⟨w.heap.size, 1, none⟩) (by simp)).trans (by simp)
  refine wp_region_bv (w.alloc (.cells #[.int .i64 x, .int .i64 y] 29)) (by kernel_rfl) (by kernel_rfl) (Below.refl _ _) ?_
  (repeat (go_big_quiet_step (first | (go_at_call 198; with_reducible exact quiet_bv (K.out _)) | fail)))
  refine wpQuiet_nil ?_
  intro w9 hb9
  clear x1 x2
  go_wp2
  go_ret
  exact ⟨rfl, b0.trans (hb9.mono (by simp))⟩
set_option maxHeartbeats 400000 in
theorem Wrap_any (n : Int) (w : World) (h0 : -1000000000000 ≤ n) (h1 : n ≤ 1000000000000) : Calls Tryz.prog 58 #[.int .i64 n] w fun e w' => e = .returned (.int .i64 (n % 21600000)) ∧ Below w.heap.size w w' := by
  go_enter Tryz.func58, Tryz.ntmps58
  go_wp2
  all_goals
    go_ret
    refine ⟨ret_int ?_, ?_⟩
    · first | (exact tmod_pos (by assumption)) | (rw [IntWalk.wrap64_in _ (by have := tmod_neg (n := n) (by assumption); omega)]; exact tmod_neg (by assumption))
    · repeat (first | exact Below.refl _ _ | assumption | refine bl_drew ?_ | refine bl_drewN ?_ _ | refine Below.setCell ?_ (by first | assumption | omega | (simp; done) | (simp; omega)) _ | refine Below.alloc ?_ (by first | assumption | omega | (simp; done) | (simp; omega)) _)
set_option maxHeartbeats 400000 in
theorem beyond_any (x y n : Int) (w : World) (h0 : -100000000 ≤ n) (h1 : n ≤ 100000000) (h2 : -100000000 ≤ x) (h3 : x ≤ 100000000) : Calls Tryz.prog 135 #[.agg #[.int .i64 x, .int .i64 y], .int .i64 n] w fun e w' => e = .returned (.int .i64 ((n - x) % 21600000)) ∧ Below w.heap.size w w' := by
  have K := Lib.hid (fun W => Wrap_any (n - x) W (by omega) (by omega))
  go_enter Tryz.func135, Tryz.ntmps135
  go_wp2_with (go_at_call 58; (with_reducible refine (K.out _).mono ?_); rintro e w1 ⟨rfl, hb1⟩)
  go_ret
  exact ⟨rfl, one_bl hb1⟩
set_option maxHeartbeats 1000000 in
theorem has_place (x y n : Int) (w : World) (h0 : -100000000 ≤ n) (h1 : n ≤ 100000000) (h2 : -100000000 ≤ x) (hx : x ≤ 100000000) (h3 : x ≤ y) (h4 : y - x < 21600000) : Calls Tryz.prog 70 #[.agg #[.int .i64 x, .int .i64 y], .int .i64 n] w fun e w' => e = .returned (.bool (lonIn x y n)) ∧ Below w.heap.size w w' := by
  · have ha : aeq x y (-10800000) 10800000 = false := by simp [aeq]; omega
    have K := Lib.hid (fun W => all_any x y W)
    rw [ha] at K
    have K2 := Lib.hid (fun W => beyond_any x y n W h0 h1 h2 hx)
    have sy : IntKind.i64.wrap (y - x) = y - x := IntWalk.i64_in _ (by omega)
    unfold lonIn
    clear ha
    go_enter Tryz.func70, Tryz.ntmps70
    go_upto_region 1 with fail
    have b0 := bl_alloc w (.cells #[.int .i64 x, .int .i64 y] 29)
    have x1 : ∀ s : BV (w.alloc (.cells #[.int .i64 x, .int .i64 y] 29)), s.w.cell? ⟨w.heap.size, 0, none⟩ = some (.int .i64 x) := fun s => (s.hb.cell (p := ⟨w.heap.size, 0, none⟩) (by simp)).trans (by simp)
    have x2 : ∀ s : BV (w.alloc (.cells #[.int .i64 x, .int .i64 y] 29)), s.w.cell? ⟨w.heap.size, 1, none⟩ = some (.int .i64 y) := fun s => (s.hb.cell (p := ⟨w.heap.size, 1, none⟩) (by simp)).trans (by simp)
    refine wp_region_bv (w.alloc (.cells #[.int .i64 x, .int .i64 y] 29)) (by kernel_rfl) (by kernel_rfl) (Below.refl _ _) ?_
    (repeat (go_big_quiet_step (first | (go_at_call 134; with_reducible exact quiet_bv (K.out _)) | (go_at_call 135; with_reducible exact quiet_bv (K2.out _)) | fail)))
    refine wpQuiet_nil ?_
    intro w9 hb9
    clear x1 x2 sy
    go_wp2
    go_ret
    exact ⟨rfl, b0.trans (hb9.mono (by simp))⟩
end Go.Proofs.YtifdgdgfmjfbdaaGreat
namespace Go.Proofs.YtifdgdgfmjfbdaaGreat
open Go.RowKit
/-- two cells that are known -/
structure K2 (W : World) (g : Nat) (a b : Int) : Prop where
  lt : g < W.heap.size
  c0 : W.cell? ⟨g, 0, none⟩ = some (.int .i64 a)
  c1 : W.cell? ⟨g, 1, none⟩ = some (.int .i64 b)
  f0 : W.frozen? ⟨g, 0, none⟩ = false
  f1 : W.frozen? ⟨g, 1, none⟩ = false
section
variable {W W' : World} {g : Nat} {a b : Int}
theorem K2.below {B : Nat} (h : K2 W g a b) (hb : Below B W W') (hB : g < B) : K2 W' g a b :=
  ⟨Nat.lt_of_lt_of_le h.lt hb.size, (hb.cell (p := ⟨g, 0, none⟩) hB).trans h.c0, (hb.cell (p := ⟨g, 1, none⟩) hB).trans h.c1, (hb.frozen (p := ⟨g, 0, none⟩) hB).trans h.f0, (hb.frozen (p := ⟨g, 1, none⟩) hB).trans h.f1⟩
theorem K2.alloc (h : K2 W g a b) (o : Obj) : K2 (W.alloc o) g a b := h.below (bl_alloc W o) h.lt
theorem K2.new (W : World) (a b : Int) (t : TypeId) : K2 (W.alloc (.cells #[.int .i64 a, .int .i64 b] t)) W.heap.size a b := ⟨by simp, by simp, by simp, by simp, by simp⟩
theorem K2.far (h : K2 W g a b) {p : Addr} (hp : g ≠ p.block) (u : Value) : K2 (W.setCell p u) g a b := by
  have hne : ∀ i, p ≠ (⟨g, i, none⟩ : Addr) := fun i e => hp (by rw [e])
  refine ⟨by simpa using h.lt, ?_, ?_, ?_, ?_⟩
  · rw [World.cell?_setCell_other _ _ _ _ (hne 0)]; exact h.c0
  · rw [World.cell?_setCell_other _ _ _ _ (hne 1)]; exact h.c1
  · simpa using h.f0
  · simpa using h.f1
theorem K2.set0 (h : K2 W g a b) (v : Int) : K2 (W.setCell ⟨g, 0, none⟩ (.int .i64 v)) g v b := by
  refine ⟨by simpa using h.lt, World.cell?_setCell_same _ _ _ h.c0, ?_, by simpa using h.f0, by simpa using h.f1⟩
  rw [World.cell?_setCell_other _ _ _ _ (by simp)]
  exact h.c1
theorem K2.set1 (h : K2 W g a b) (v : Int) : K2 (W.setCell ⟨g, 1, none⟩ (.int .i64 v)) g a v := by
  refine ⟨by simpa using h.lt, ?_, World.cell?_setCell_same _ _ _ h.c1, by simpa using h.f0, by simpa using h.f1⟩
  rw [World.cell?_setCell_other _ _ _ _ (by simp)]
  exact h.c0
end
/-- the width that arcs need from a beginning on -/
def wdt (D : List Sp) (a : Int) (k : Nat) : Int := (D.take k).foldl (fun w b => max w ((b.1 - a) % 21600000 + b.2 - b.1)) 0
def OkA (D : List Sp) : Prop := ∀ x ∈ D, -10800000 ≤ x.1 ∧ x.1 ≤ 10800000 ∧ x.1 ≤ x.2 ∧ x.2 ≤ x.1 + 21600000
theorem wdt_succ (D : List Sp) (a : Int) (k : Nat) (hk : k < D.length) : wdt D a (k + 1) = max (wdt D a k) (((gs D k).1 - a) % 21600000 + (gs D k).2 - (gs D k).1) := by
  unfold wdt
  rw [List.take_succ_eq_append_getElem hk, List.foldl_append]
  simp [gs, hk]
end Go.Proofs.YtifdgdgfmjfbdaaGreat
