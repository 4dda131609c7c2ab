/- Plain: what the search finds is in order and is put together as it comes; around a place, finer is smaller. No program in sight. -/
import Derived.Test.YtpemohoibeipfaaGreatHNh
set_option linter.unusedVariables false
set_option linter.unusedSimpArgs false
namespace Go.Proofs.YtpemohoibeipfaaGreat
open Canon
/-! ### the search of a region -/
/-- the part of a cell: `ag` says whether a cell agrees with all circles, `su` whether it surely does -/
def prt (ag su : Cl → Bool) (lev : Int) : Nat → Cl → List Cl
  | 0, c => if ag c = true then [c] else []
  | f + 1, c => if ag c = true then (if lev ≤ c.1 ∨ su c = true then [c] else (kidsC c).flatMap (prt ag su lev f)) else []
/-- how many cells are looked at -/
def prn (ag su : Cl → Bool) (lev : Int) : Nat → Cl → Nat
  | 0, _ => 1
  | f + 1, c => if ag c = true then (if lev ≤ c.1 ∨ su c = true then 1 else 1 + ((kidsC c).map (prn ag su lev f)).sum) else 1
def fuC (c : Cl) : Nat := (16 - c.1).toNat
def prA (ag su : Cl → Bool) (lev : Int) (L : List Cl) : List Cl := L.flatMap fun c => prt ag su lev (fuC c) c
def prN (ag su : Cl → Bool) (lev : Int) (L : List Cl) : Nat := (L.map fun c => prn ag su lev (fuC c) c).sum
theorem fuC_eq {c : Cl} (hc : Vl c) : c.1 + ((fuC c : Nat) : Int) = 16 := by
  have := hc.l1
  unfold fuC
  omega
theorem kid_one {c : Cl} {f : Nat} (hl : c.1 + ((f + 1 : Nat) : Int) = 16) : ∀ x ∈ kidsC c, x.1 + (f : Int) = 16 ∧ x.1 = c.1 + 1 := by
  intro x hx
  simp only [kidsC, kids, List.mem_cons, List.not_mem_nil, or_false] at hx
  rcases hx with rfl | rfl | rfl | rfl <;> exact ⟨by simp only []; omega, rfl⟩
theorem prn_pos (ag su : Cl → Bool) (lev : Int) : ∀ (f : Nat) (c : Cl), 1 ≤ prn ag su lev f c
  | 0, _ => Nat.le_refl _
  | f + 1, c => by
    unfold prn
    split
    · split <;> omega
    · exact Nat.le_refl _
theorem prt_v {ag su : Cl → Bool} {lev : Int} (h16 : lev ≤ 16) : ∀ (f : Nat) (c : Cl), Vl c → c.1 + (f : Int) = 16 → AllV (prt ag su lev f c) ∧ (∀ q, covL (prt ag su lev f c) q → covL [c] q) ∧ (prt ag su lev f c).length ≤ prn ag su lev f c ∧ ∀ x ∈ prt ag su lev f c, x.1 ≤ max lev c.1 := by
  have one : ∀ c : Cl, Vl c → AllV [c] := fun c hc x hx => by simp at hx; subst hx; exact hc
  intro f
  induction f with
  | zero =>
    intro c hc hl
    unfold prt prn
    split
    · exact ⟨one c hc, fun q h => h, Nat.le_refl _, fun x hx => by simp at hx; subst hx; omega⟩
    · exact ⟨fun x hx => (by cases hx), fun q h => (by obtain ⟨x, hx, -⟩ := h; cases hx), Nat.zero_le _, fun x hx => (by cases hx)⟩
  | succ f ih =>
    intro c hc hl
    unfold prt prn
    split
    · split
      · exact ⟨one c hc, fun q h => h, Nat.le_refl _, fun x hx => by simp at hx; subst hx; omega⟩
      · rename_i hs
        have hlt : c.1 < 16 := by omega
        have hkv := kids_vl hc hlt
        have hkl := kid_one hl
        have hlc : c.1 < lev := by
          have : ¬ lev ≤ c.1 := fun h => hs (.inl h)
          omega
        refine ⟨fun x hx => ?_, fun q h => ?_, ?_, fun x hx => ?_⟩
        · obtain ⟨y, hy, hxy⟩ := List.mem_flatMap.1 hx
          exact (ih y (hkv y hy) (hkl y hy).1).1 x hxy
        · obtain ⟨x, hx, hq⟩ := h
          obtain ⟨y, hy, hxy⟩ := List.mem_flatMap.1 hx
          have := (ih y (hkv y hy) (hkl y hy).1).2.1 q ⟨x, hxy, hq⟩
          rw [← cov_kids hc hlt]
          rw [cov_one] at this
          exact ⟨y, hy, this⟩
        · have key : ∀ K : List Cl, (∀ y ∈ K, y ∈ kidsC c) → (K.flatMap (prt ag su lev f)).length ≤ (K.map (prn ag su lev f)).sum := by
            intro K
            induction K with
            | nil => intro _; simp
            | cons y K ihK =>
              intro hK
              have h1 := (ih y (hkv y (hK y (by simp))) (hkl y (hK y (by simp))).1).2.2.1
              have h2 := ihK (fun z hz => hK z (by simp [hz]))
              simp only [List.flatMap_cons, List.length_append, List.map_cons, List.sum_cons]
              omega
          have := key (kidsC c) (fun _ h => h)
          omega
        · obtain ⟨y, hy, hxy⟩ := List.mem_flatMap.1 hx
          have h1 := (ih y (hkv y hy) (hkl y hy).1).2.2.2 x hxy
          have h2 := (hkl y hy).2
          omega
    · exact ⟨fun x hx => (by cases hx), fun q h => (by obtain ⟨x, hx, -⟩ := h; cases hx), Nat.zero_le _, fun x hx => (by cases hx)⟩
theorem prA_v {ag su : Cl → Bool} {lev : Int} (h16 : lev ≤ 16) {L : List Cl} (hL : AllV L) : AllV (prA ag su lev L) ∧ (∀ q, covL (prA ag su lev L) q → covL L q) ∧ (prA ag su lev L).length ≤ prN ag su lev L ∧ L.length ≤ prN ag su lev L ∧ ∀ x ∈ prA ag su lev L, ∃ c ∈ L, x.1 ≤ max lev c.1 := by
  refine ⟨fun x hx => ?_, fun q h => ?_, ?_, ?_, fun x hx => ?_⟩
  · obtain ⟨y, hy, hxy⟩ := List.mem_flatMap.1 hx
    exact (prt_v h16 _ y (hL y hy) (fuC_eq (hL y hy))).1 x hxy
  · obtain ⟨x, hx, hq⟩ := h
    obtain ⟨y, hy, hxy⟩ := List.mem_flatMap.1 hx
    have := (prt_v h16 _ y (hL y hy) (fuC_eq (hL y hy))).2.1 q ⟨x, hxy, hq⟩
    rw [cov_one] at this
    exact ⟨y, hy, this⟩
  · unfold prA prN
    induction L with
    | nil => simp
    | cons y L ih =>
      have h1 := (prt_v (ag := ag) (su := su) h16 _ y (hL y (by simp)) (fuC_eq (hL y (by simp)))).2.2.1
      have h2 := ih (fun z hz => hL z (by simp [hz]))
      simp only [List.flatMap_cons, List.length_append, List.map_cons, List.sum_cons]
      omega
  · unfold prN
    clear hL
    induction L with
    | nil => simp
    | cons y L ih =>
      have h1 := prn_pos ag su lev (fuC y) y
      simp only [List.length_cons, List.map_cons, List.sum_cons]
      omega
  · obtain ⟨y, hy, hxy⟩ := List.mem_flatMap.1 hx
    exact ⟨y, hy, (prt_v h16 _ y (hL y hy) (fuC_eq (hL y hy))).2.2.2 x hxy⟩
/-! ### the way down to a finest cell -/
def cellAt (q j : Nat) : Cl := cellB (16 - j, q / 4 ^ (16 - j))
theorem cov_div (c : Cl) (q : Nat) : covL [c] q ↔ q / 4 ^ (blkOf c).1 = (blkOf c).2 := by
  have hp : 0 < 4 ^ (blkOf c).1 := Nat.pow_pos (by omega)
  rw [cov_one, spF_blk, spT_blk]
  constructor
  · rintro ⟨h1, h2⟩
    exact Nat.div_eq_of_lt_le h1 h2
  · intro h
    rw [← h]
    exact ⟨Nat.div_mul_le_self _ _, by rw [Nat.mul_comm]; exact Nat.lt_mul_div_succ q hp⟩
theorem cov_at {c : Cl} (hc : Vl c) {q : Nat} (h : covL [c] q) : c = cellAt q c.1.toNat := by
  rw [cov_div] at h
  have e := cellB_blkOf c hc
  unfold cellAt
  have : (16 - c.1.toNat) = (blkOf c).1 := rfl
  rw [this, h, e]
theorem at_kid {c : Cl} (hc : Vl c) (h : c.1 < 16) {q : Nat} (hq : covL [c] q) : cellAt q (c.1.toNat + 1) ∈ kidsC c ∧ covL [cellAt q (c.1.toNat + 1)] q ∧ ∀ x ∈ kidsC c, covL [x] q → x = cellAt q (c.1.toNat + 1) := by
  have key : ∀ x ∈ kidsC c, covL [x] q → x = cellAt q (c.1.toNat + 1) := by
    intro x hx hxq
    have e := cov_at (kids_vl hc h x hx) hxq
    have h0 := hc.l0
    have : x.1.toNat = c.1.toNat + 1 := by
      simp only [kidsC, kids, List.mem_cons, List.not_mem_nil, or_false] at hx
      rcases hx with rfl | rfl | rfl | rfl <;> (simp only []; omega)
    rw [this] at e
    exact e
  obtain ⟨x, hx, hxq⟩ := (cov_kids hc h q).2 hq
  have hxq := (cov_one x q).2 hxq
  have e := key x hx hxq
  rw [← e]
  exact ⟨hx, hxq, fun y hy hyq => by rw [e]; exact key y hy hyq⟩
def gop (ag su : Cl → Bool) (lev : Int) (q : Nat) : Nat → Nat → Prop
  | 0, j => ag (cellAt q j) = true
  | f + 1, j => ag (cellAt q j) = true ∧ ((lev ≤ (j : Int) ∨ su (cellAt q j) = true) ∨ gop ag su lev q f (j + 1))
theorem prt_go {ag su : Cl → Bool} {lev : Int} (h16 : lev ≤ 16) {q : Nat} : ∀ (f : Nat) (c : Cl), Vl c → c.1 + (f : Int) = 16 → covL [c] q → (covL (prt ag su lev f c) q ↔ gop ag su lev q f c.1.toNat) := by
  have none : ¬ covL [] q := fun h => by obtain ⟨x, hx, -⟩ := h; cases hx
  intro f
  induction f with
  | zero =>
    intro c hc hl hq
    unfold prt gop
    rw [← cov_at hc hq]
    split
    · rename_i h; exact ⟨fun _ => h, fun _ => hq⟩
    · rename_i h; exact ⟨fun h' => absurd h' none, fun h' => absurd h' h⟩
  | succ f ih =>
    intro c hc hl hq
    have h0 := hc.l0
    have hlt : c.1 < 16 := by omega
    obtain ⟨k1, k2, k3⟩ := at_kid hc hlt hq
    unfold prt gop
    rw [← cov_at hc hq, show ((c.1.toNat : Nat) : Int) = c.1 by omega]
    split
    · rename_i h
      split
      · rename_i hs; exact ⟨fun _ => ⟨h, .inl hs⟩, fun _ => hq⟩
      · rename_i hs
        have hv := kids_vl hc hlt _ k1
        have hf := kid_one hl _ k1
        have e : (cellAt q (c.1.toNat + 1)).1.toNat = c.1.toNat + 1 := by have := hf.2; omega
        have IH := ih _ hv hf.1 k2
        rw [e] at IH
        rw [← IH]
        constructor
        · rintro ⟨x, hx, hxq⟩
          obtain ⟨y, hy, hxy⟩ := List.mem_flatMap.1 hx
          have hyv := kids_vl hc hlt y hy
          have hyq := (prt_v h16 f y hyv (kid_one hl y hy).1).2.1 q ⟨x, hxy, hxq⟩
          have := k3 y hy hyq
          subst this
          exact ⟨h, .inr ⟨x, hxy, hxq⟩⟩
        · rintro ⟨-, h' | h'⟩
          · exact absurd h' hs
          · obtain ⟨x, hx, hxq⟩ := h'
            exact ⟨x, List.mem_flatMap.2 ⟨_, k1, hx⟩, hxq⟩
    · rename_i h; exact ⟨fun h' => absurd h' none, fun h' => absurd h'.1 h⟩
theorem prA_go {ag su : Cl → Bool} {lev : Int} (h16 : lev ≤ 16) {L : List Cl} (hL : AllV L) {q : Nat} : covL (prA ag su lev L) q ↔ ∃ r ∈ L, covL [r] q ∧ gop ag su lev q (fuC r) r.1.toNat := by
  constructor
  · rintro ⟨x, hx, hxq⟩
    obtain ⟨y, hy, hxy⟩ := List.mem_flatMap.1 hx
    have hyq := (prt_v h16 _ y (hL y hy) (fuC_eq (hL y hy))).2.1 q ⟨x, hxy, hxq⟩
    exact ⟨y, hy, hyq, (prt_go h16 _ y (hL y hy) (fuC_eq (hL y hy)) hyq).1 ⟨x, hxy, hxq⟩⟩
  · rintro ⟨y, hy, hyq, hg⟩
    obtain ⟨x, hx, hxq⟩ := (prt_go h16 _ y (hL y hy) (fuC_eq (hL y hy)) hyq).2 hg
    exact ⟨x, List.mem_flatMap.2 ⟨y, hy, hx⟩, hxq⟩
theorem gop_mono {ag su ag' su' : Cl → Bool} {lev lev' : Int} {q : Nat} (hl : lev ≤ lev') (ha : ∀ x, ag' x = true → ag x = true) (hs : ∀ x, su' x = true → su x = true) : ∀ (f j : Nat), gop ag' su' lev' q f j → gop ag su lev q f j
  | 0, _, h => ha _ h
  | f + 1, j, h => by
    obtain ⟨h1, h2⟩ := h
    refine ⟨ha _ h1, ?_⟩
    rcases h2 with (h2 | h2) | h2
    · exact .inl (.inl (by omega))
    · exact .inl (.inr (hs _ h2))
    · exact .inr (gop_mono hl ha hs f (j + 1) h2)
/-- more circles, or a finer level, leave less -/
theorem prA_less {ag su ag' su' : Cl → Bool} {lev lev' : Int} (h16 : lev' ≤ 16) (hl : lev ≤ lev') (ha : ∀ x, ag' x = true → ag x = true) (hs : ∀ x, su' x = true → su x = true) {L : List Cl} (hL : AllV L) {q : Nat} (h : covL (prA ag' su' lev' L) q) : covL (prA ag su lev L) q := by
  rw [prA_go h16 hL] at h
  rw [prA_go (by omega) hL]
  obtain ⟨r, hr, hq, hg⟩ := h
  exact ⟨r, hr, hq, gop_mono hl ha hs _ _ hg⟩
/-! ### how many cells are looked at: fewer circles more, a coarser level fewer -/
theorem prn_level {ag su : Cl → Bool} {lev lev' : Int} (hl : lev ≤ lev') : ∀ (f : Nat) (c : Cl), prn ag su lev f c ≤ prn ag su lev' f c
  | 0, _ => Nat.le_refl _
  | f + 1, c => by
    have ih := prn_level (ag := ag) (su := su) hl f
    have hp := prn_pos ag su lev' (f + 1) c
    by_cases ha : ag c = true
    · by_cases hs : lev ≤ c.1 ∨ su c = true
      · have : prn ag su lev (f + 1) c = 1 := by unfold prn; rw [if_pos ha, if_pos hs]
        omega
      · have hs' : ¬ (lev' ≤ c.1 ∨ su c = true) := fun h => hs (h.elim (fun h => .inl (by omega)) .inr)
        unfold prn
        rw [if_pos ha, if_neg hs, if_pos ha, if_neg hs']
        have key : ∀ K : List Cl, (K.map (prn ag su lev f)).sum ≤ (K.map (prn ag su lev' f)).sum := by
          intro K
          induction K with
          | nil => simp
          | cons y K ihK => have := ih y; simp only [List.map_cons, List.sum_cons]; omega
        have := key (kidsC c)
        omega
    · have : prn ag su lev (f + 1) c = 1 := by unfold prn; rw [if_neg ha]
      omega
theorem prN_level {ag su : Cl → Bool} {lev lev' : Int} (hl : lev ≤ lev') (L : List Cl) : prN ag su lev L ≤ prN ag su lev' L := by
  unfold prN
  induction L with
  | nil => simp
  | cons y L ih => have := prn_level (ag := ag) (su := su) hl (fuC y) y; simp only [List.map_cons, List.sum_cons]; omega
/-! ### a region that is refined -/
theorem can_great {X : List Cl} {y z : Cl} (hy : y ∈ canonC (covL X)) (hyv : Vl y) (hz : Vl z) {q0 : Nat} (h1 : covL [y] q0) (h2 : covL [z] q0) (hf : ∀ q, covL [z] q → covL X q) : y.1 ≤ z.1 := by
  by_cases hlt : z.1 < y.1
  · exfalso
    have hm : ∃ i, (blkOf y) ∈ canon (covL X) 16 i := by
      unfold canonC at hy
      obtain ⟨b, hb, e⟩ := List.mem_map.1 hy
      have hb16 : b.1 ≤ 16 := by
        rcases List.mem_append.1 hb with h | h
        · exact ((mem_canon (covL X) 16 0 b.1 b.2).1 h).1
        · exact ((mem_canon (covL X) 16 1 b.1 b.2).1 h).1
      rw [← e, blkOf_cellB b hb16]
      rcases List.mem_append.1 hb with h | h
      · exact ⟨0, h⟩
      · exact ⟨1, h⟩
    obtain ⟨i, hm⟩ := hm
    obtain ⟨m1, m2, m3, m4⟩ := (mem_canon (covL X) 16 i (blkOf y).1 (blkOf y).2).1 hm
    have hb := blk_lt z hz
    have y0 := hyv.l0
    have y1 := hyv.l1
    have z0 := hz.l0
    have e1 : (blkOf y).1 = 16 - y.1.toNat := rfl
    have e2 : (blkOf z).1 = 16 - z.1.toNat := rfl
    have hkh : (blkOf y).1 + 1 ≤ (blkOf z).1 := by omega
    rw [cov_div] at h1 h2
    have hfull : full (covL X) (blkOf z).1 (blkOf z).2 := by
      intro q g1 g2
      exact hf q ((cov_one z q).2 ⟨g1, g2⟩)
    rcases m4 with m4 | m4
    · omega
    · refine m4 (full_sub hfull hkh ?_)
      rw [← h1, ← h2, Nat.div_div_eq_div_mul, Nat.mul_comm 4, ← Nat.pow_succ, Nat.div_div_eq_div_mul, ← Nat.pow_add]
      congr 2
      omega
  · omega
theorem prt_leaf {ag su : Cl → Bool} {lev : Int} (h16 : lev ≤ 16) {c : Cl} (hc : Vl c) (ha : ag c = true) (hs : lev ≤ c.1 ∨ su c = true) (f : Nat) : prt ag su lev f c = [c] := by
  cases f with
  | zero => unfold prt; rw [if_pos ha]
  | succ f => unfold prt; rw [if_pos ha, if_pos hs]
/-- on the way from a cell of the start down to a cell of the region, nothing stops -/
theorem way {ag su : Cl → Bool} {lev : Int} (h16 : lev ≤ 16) {X : List Cl} (hX : AllV X) {y : Cl} (hy : y ∈ canonC (covL X)) {q : Nat} (hyq : covL [y] q) (hqX : ∀ q, covL [y] q → covL X q) : ∀ (f : Nat) (c : Cl), Vl c → c.1 + (f : Int) = 16 → covL [c] q → c.1 ≤ y.1 → (∀ q, covL [c] q → (covL X q ↔ covL (prt ag su lev f c) q)) →
    ∃ g : Nat, y.1 + (g : Int) = 16 ∧ (∀ q', covL [y] q' → (∀ lev' : Int, lev ≤ lev' → (gop ag su lev' q' f c.1.toNat ↔ gop ag su lev' q' g y.1.toNat))) ∧ (∀ lev' : Int, lev ≤ lev' → prn ag su lev' g y ≤ prn ag su lev' f c) ∧ (y.1 ≤ max lev c.1) := by
  have hyv := can_v X hX y hy
  intro f
  induction f with
  | zero =>
    intro c hc hl hq hle hcov
    have e : y.1 = c.1 := by have := hyv.l1; omega
    have e2 : y = c := by rw [cov_at hyv hyq, cov_at hc hq, e]
    subst e2
    exact ⟨0, hl, fun _ _ _ _ => Iff.rfl, fun _ _ => Nat.le_refl _, by omega⟩
  | succ f ih =>
    intro c hc hl hq hle hcov
    by_cases e : y.1 = c.1
    · have e2 : y = c := by rw [cov_at hyv hyq, cov_at hc hq, e]
      subst e2
      exact ⟨f + 1, hl, fun _ _ _ _ => Iff.rfl, fun _ _ => Nat.le_refl _, by omega⟩
    · have hlt : c.1 < 16 := by omega
      have h0 := hc.l0
      have hin := (hcov q hq).1 (hqX q hyq)
      have ha : ag c = true := by
        by_cases ha : ag c = true
        · exact ha
        · unfold prt at hin
          rw [if_neg ha] at hin
          obtain ⟨x, hx, -⟩ := hin
          cases hx
      have hs : ¬ (lev ≤ c.1 ∨ su c = true) := by
        intro hs
        have hfull : ∀ q, covL [c] q → covL X q := by
          intro q' hq'
          rw [hcov q' hq', prt_leaf h16 hc ha hs]
          exact hq'
        have := can_great hy hyv hc hyq hq hfull
        omega
      obtain ⟨k1, k2, k3⟩ := at_kid hc hlt hq
      generalize hd : cellAt q (c.1.toNat + 1) = d at k1 k2 k3
      have hdv := kids_vl hc hlt d k1
      have hdf := kid_one hl d k1
      obtain ⟨g, g1, g2, g3, g4⟩ := ih d hdv hdf.1 k2 (by omega) (by
        intro q' hq'
        have hq'c : covL [c] q' := (cov_kids hc hlt q').1 ⟨d, k1, (cov_one d q').1 hq'⟩
        rw [hcov q' hq'c]
        conv => lhs; unfold prt
        rw [if_pos ha, if_neg hs]
        obtain ⟨-, -, j3⟩ := at_kid hc hlt hq'c
        have ed := j3 d k1 hq'
        constructor
        · rintro ⟨x, hx, hxq⟩
          obtain ⟨z, hz, hxz⟩ := List.mem_flatMap.1 hx
          have hzq := (prt_v h16 f z (kids_vl hc hlt z hz) (kid_one hl z hz).1).2.1 q' ⟨x, hxz, hxq⟩
          have := j3 z hz hzq
          rw [← ed] at this
          subst this
          exact ⟨x, hxz, hxq⟩
        · rintro ⟨x, hx, hxq⟩
          exact ⟨x, List.mem_flatMap.2 ⟨d, k1, hx⟩, hxq⟩)
      have hlc : ¬ lev ≤ c.1 := fun h => hs (.inl h)
      have hsu : ¬ su c = true := fun h => hs (.inr h)
      refine ⟨g, g1, fun q' hq' lev' hl' => ?_, fun lev' hl' => ?_, by omega⟩
      · rw [← g2 q' hq' lev' hl']
        have hq'd : covL [d] q' := by
          -- y lies within d
          have hlt2 : d.1 ≤ y.1 := by omega
          rw [cov_div] at hq' hyq k2 ⊢
          have b1 : (blkOf y).1 ≤ (blkOf d).1 := by
            show 16 - y.1.toNat ≤ 16 - d.1.toNat
            have := hyv.l0
            omega
          rw [← k2, show (blkOf d).1 = (blkOf y).1 + ((blkOf d).1 - (blkOf y).1) by omega, Nat.pow_add, ← Nat.div_div_eq_div_mul, ← Nat.div_div_eq_div_mul, hq', hyq]
        have hq'c : covL [c] q' := (cov_kids hc hlt q').1 ⟨d, k1, (cov_one d q').1 hq'd⟩
        have e1 : cellAt q' c.1.toNat = c := (cov_at hc hq'c).symm
        have e3 : d.1.toNat = c.1.toNat + 1 := by omega
        conv => lhs; unfold gop
        rw [e1, e3]
        constructor
        · rintro ⟨-, (h | h) | h⟩
          · exfalso; omega
          · exact absurd h hsu
          · exact h
        · intro h; exact ⟨ha, .inr h⟩
      · refine Nat.le_trans (g3 lev' hl') ?_
        conv => rhs; unfold prn
        rw [if_pos ha, if_neg (by rintro (h | h); · omega
                                  · exact hsu h)]
        have key : ∀ K : List Cl, d ∈ K → prn ag su lev' f d ≤ (K.map (prn ag su lev' f)).sum := by
          intro K
          induction K with
          | nil => intro h; cases h
          | cons z K ihK =>
            intro h
            simp only [List.map_cons, List.sum_cons]
            rcases List.mem_cons.1 h with rfl | h
            · omega
            · have := ihK h; omega
        have := key _ k1
        omega
/-- a finer region from the start is what the coarser region is refined to -/
theorem prA_refine {ag su : Cl → Bool} {n m : Int} (hm : m ≤ 16) (hn : n ≤ m) {L : List Cl} (hL : AllV L) (hT : canonC (covL L) = L) :
    (∀ q, covL (prA ag su m (canonC (covL (prA ag su n L)))) q ↔ covL (prA ag su m L) q) ∧ prN ag su m (canonC (covL (prA ag su n L))) ≤ prN ag su n L * prN ag su m L ∧ ∀ y ∈ canonC (covL (prA ag su n L)), ∃ c ∈ L, y.1 ≤ max n c.1 := by
  have hX := (prA_v (ag := ag) (su := su) (lev := n) (by omega) hL).1
  have hXL := (prA_v (ag := ag) (su := su) (lev := n) (by omega) hL).2.1
  have hlen := (prA_v (ag := ag) (su := su) (lev := n) (by omega) hL).2.2.1
  obtain ⟨X, eX⟩ : ∃ X, prA ag su n L = X := ⟨_, rfl⟩
  rw [eX] at hX hXL hlen ⊢
  have hA := can_v X hX
  have hc := can_cov hX
  have hu : ∀ r ∈ L, ∀ s ∈ L, ∀ q, covL [r] q → covL [s] q → r = s := by
    intro r hr s hs q h1 h2
    have hr' : r ∈ canonC (covL L) := by rw [hT]; exact hr
    have hs' : s ∈ canonC (covL L) := by rw [hT]; exact hs
    have a1 := can_great hr' (hL r hr) (hL s hs) h1 h2 (fun q h => by rw [cov_one] at h; exact ⟨s, hs, h⟩)
    have a2 := can_great hs' (hL s hs) (hL r hr) h2 h1 (fun q h => by rw [cov_one] at h; exact ⟨r, hr, h⟩)
    rw [cov_at (hL r hr) h1, cov_at (hL s hs) h2, show r.1 = s.1 by omega]
  -- each cell of the region, and its cell of the start
  have W : ∀ y ∈ canonC (covL X), ∃ r ∈ L, (∀ q', covL [y] q' → covL [r] q') ∧ (∀ q', covL [y] q' → ∀ lev' : Int, n ≤ lev' → (gop ag su lev' q' (fuC r) r.1.toNat ↔ gop ag su lev' q' (fuC y) y.1.toNat)) ∧ (∀ lev' : Int, n ≤ lev' → prn ag su lev' (fuC y) y ≤ prn ag su lev' (fuC r) r) ∧ y.1 ≤ max n r.1 := by
    intro y hy
    have hyv := hA y hy
    have hyX : ∀ q, covL [y] q → covL X q := fun q h => (hc q).1 (by rw [cov_one] at h; exact ⟨y, hy, h⟩)
    have hyq : covL [y] (spF y) := (cov_one y _).2 ⟨Nat.le_refl _, sp_pos y⟩
    obtain ⟨r, hr, hrq⟩ := hXL _ (hyX _ hyq)
    have hrq := (cov_one r _).2 hrq
    have hr' : r ∈ canonC (covL L) := by rw [hT]; exact hr
    have hle := can_great hr' (hL r hr) hyv hrq hyq (fun q h => hXL q (hyX q h))
    have hcovr : ∀ q, covL [r] q → (covL X q ↔ covL (prt ag su n (fuC r) r) q) := by
      intro q hq
      constructor
      · intro h
        rw [← eX] at h
        obtain ⟨x, hx, hxq⟩ := h
        obtain ⟨s, hs, hxs⟩ := List.mem_flatMap.1 hx
        have hsq := (prt_v (by omega) _ s (hL s hs) (fuC_eq (hL s hs))).2.1 q ⟨x, hxs, hxq⟩
        have := hu s hs r hr q hsq hq
        subst this
        exact ⟨x, hxs, hxq⟩
      · rintro ⟨x, hx, hxq⟩
        rw [← eX]
        exact ⟨x, List.mem_flatMap.2 ⟨r, hr, hx⟩, hxq⟩
    obtain ⟨g, g1, g2, g3, g4⟩ := way (ag := ag) (su := su) (by omega) hX hy hyq hyX (fuC r) r (hL r hr) (fuC_eq (hL r hr)) hrq hle hcovr
    have eg : g = fuC y := by have := fuC_eq hyv; omega
    subst eg
    refine ⟨r, hr, fun q' hq' => ?_, g2, g3, g4⟩
    have hrl := (hL r hr).l0
    rw [cov_div] at hq' hyq hrq ⊢
    have b1 : (blkOf y).1 ≤ (blkOf r).1 := by
      show 16 - y.1.toNat ≤ 16 - r.1.toNat
      omega
    rw [← hrq, show (blkOf r).1 = (blkOf y).1 + ((blkOf r).1 - (blkOf y).1) by omega, Nat.pow_add, ← Nat.div_div_eq_div_mul, ← Nat.div_div_eq_div_mul, hq', hyq]
  refine ⟨fun q => ?_, ?_, fun y hy => ?_⟩
  · rw [prA_go hm hA, prA_go hm hL]
    constructor
    · rintro ⟨y, hy, hyq, hg⟩
      obtain ⟨r, hr, w1, w2, -, -⟩ := W y hy
      exact ⟨r, hr, w1 q hyq, (w2 q hyq m hn).2 hg⟩
    · rintro ⟨r, hr, hrq, hg⟩
      have hgn := gop_mono (ag := ag) (su := su) hn (fun _ h => h) (fun _ h => h) _ _ hg
      have hqX : covL X q := by rw [← eX, prA_go (by omega) hL]; exact ⟨r, hr, hrq, hgn⟩
      obtain ⟨y, hy, hyq⟩ := (hc q).2 hqX
      have hyq := (cov_one y q).2 hyq
      obtain ⟨s, hs, w1, w2, -, -⟩ := W y hy
      have := hu s hs r hr q (w1 q hyq) hrq
      subst this
      exact ⟨y, hy, hyq, (w2 q hyq m hn).1 hg⟩
  · have hl := canonC_len X hX
    have each : ∀ r ∈ L, prn ag su m (fuC r) r ≤ prN ag su m L := by
      intro r hr
      unfold prN
      clear W hu hXL hT eX hlen
      induction L with
      | nil => cases hr
      | cons z L ihL =>
        simp only [List.map_cons, List.sum_cons]
        rcases List.mem_cons.1 hr with rfl | h
        · omega
        · have := ihL (fun x hx => hL x (by simp [hx])) h; omega
    have key : ∀ K : List Cl, (∀ y ∈ K, y ∈ canonC (covL X)) → prN ag su m K ≤ K.length * prN ag su m L := by
      intro K
      induction K with
      | nil => intro _; simp [prN]
      | cons z K ihK =>
        intro hK
        obtain ⟨r, hr, -, -, w3, -⟩ := W z (hK z (by simp))
        have h1 := w3 m hn
        have h2 := each r hr
        have h3 := ihK (fun x hx => hK x (by simp [hx]))
        have e1 : prN ag su m (z :: K) = prn ag su m (fuC z) z + prN ag su m K := by simp [prN]
        rw [e1, List.length_cons, Nat.succ_mul]
        omega
    exact Nat.le_trans (key _ (fun _ h => h)) (Nat.mul_le_mul_right _ (by omega))
  · obtain ⟨r, hr, -, -, -, w4⟩ := W y hy
    exact ⟨r, hr, w4⟩
end Go.Proofs.YtpemohoibeipfaaGreat
namespace Go.Proofs.YtpemohoibeipfaaGreat
open Canon
/-! ### what the search finds is in order, and is put together as it comes -/
def Srt (L : List Cl) : Prop := L.Pairwise fun x y => spT x ≤ spF y
theorem sp_in {x c : Cl} {L : List Cl} (hx : x ∈ L) (h : ∀ q, covL L q → covL [c] q) : spF c ≤ spF x ∧ spT x ≤ spT c := by
  have hp := sp_pos x
  have h1 := (cov_one c _).1 (h (spF x) ⟨x, hx, Nat.le_refl _, hp⟩)
  have h2 := (cov_one c _).1 (h (spT x - 1) ⟨x, hx, by omega, by omega⟩)
  omega
theorem kids_srt {c : Cl} (hc : Vl c) (h : c.1 < 16) : Srt (kidsC c) := by
  obtain ⟨h0, h1, h2, h3⟩ := kids_sp hc h
  have p1 := sp_pos (gt (kidsC c) 1)
  have p2 := sp_pos (gt (kidsC c) 2)
  have e : kidsC c = [gt (kidsC c) 0, gt (kidsC c) 1, gt (kidsC c) 2, gt (kidsC c) 3] := rfl
  rw [e]
  unfold Srt
  simp only [List.pairwise_cons, List.mem_cons, List.not_mem_nil, or_false, forall_eq_or_imp, forall_eq, List.Pairwise.nil, and_true, false_imp_iff, implies_true]
  refine ⟨⟨?_, ?_, ?_⟩, ⟨?_, ?_⟩, ?_⟩ <;> omega
theorem flat_srt {K : List Cl} {F : Cl → List Cl} (hK : Srt K) (h1 : ∀ x ∈ K, Srt (F x)) (h2 : ∀ x ∈ K, ∀ q, covL (F x) q → covL [x] q) : Srt (K.flatMap F) := by
  unfold Srt
  rw [List.pairwise_flatMap]
  refine ⟨h1, ?_⟩
  refine List.Pairwise.imp_of_mem (R := fun x y => spT x ≤ spF y) ?_ hK
  intro a b ha hb hab x hx y hy
  have := (sp_in hx (h2 a ha)).2
  have := (sp_in hy (h2 b hb)).1
  omega
theorem prt_srt {ag su : Cl → Bool} {lev : Int} (h16 : lev ≤ 16) : ∀ (f : Nat) (c : Cl), Vl c → c.1 + (f : Int) = 16 → Srt (prt ag su lev f c) := by
  intro f
  induction f with
  | zero =>
    intro c hc hl
    unfold prt Srt
    split <;> simp
  | succ f ih =>
    intro c hc hl
    have hlt : c.1 < 16 := by omega
    unfold prt
    split
    · split
      · simp [Srt]
      · exact flat_srt (kids_srt hc hlt) (fun x hx => ih x (kids_vl hc hlt x hx) (kid_one hl x hx).1) (fun x hx => (prt_v h16 f x (kids_vl hc hlt x hx) (kid_one hl x hx).1).2.1)
    · simp [Srt]
theorem td_srt {L : List Cl} (hL : AllV L) (hT : canonC (covL L) = L) : Srt L := by
  have h := ((td_iff hL).2 hT).2.1
  rw [List.pairwise_map] at h
  exact h
theorem prA_srt {ag su : Cl → Bool} {lev : Int} (h16 : lev ≤ 16) {L : List Cl} (hL : AllV L) (hT : canonC (covL L) = L) : Srt (prA ag su lev L) :=
  flat_srt (td_srt hL hT) (fun x hx => prt_srt h16 _ x (hL x hx) (fuC_eq (hL x hx))) (fun x hx => (prt_v h16 _ x (hL x hx) (fuC_eq (hL x hx))).2.1)
theorem tid_step {X : List Cl} {c : Cl} (hX : AllV X) (hc : Vl c) (h : ∀ q, covL X q → q < spF c) : mgF ((canonC (covL X)).length + 1) (canonC (covL X) ++ [c]) = canonC (covL (X ++ [c])) := by
  have := cov_ok (mt := fun _ => true) (ins := fun _ => true) (lev := c.1) hc.l1 (fun x _ _ _ y _ => ⟨rfl, rfl⟩) 0 c X hc (by simp) hX h
  unfold covP arnL at this
  simpa using this
/-- what is made of the first k cells -/
noncomputable def tdP (X : List Cl) (k : Nat) : List Cl := canonC (covL (X.take k))
theorem tdP_zero (X : List Cl) : tdP X 0 = [] := can_nil
theorem tdP_all (X : List Cl) : tdP X X.length = canonC (covL X) := by unfold tdP; rw [List.take_length]
theorem tdP_succ {X : List Cl} (hX : AllV X) (hs : Srt X) {k : Nat} (hk : k < X.length) : mgF ((tdP X k).length + 1) (tdP X k ++ [gt X k]) = tdP X (k + 1) := by
  have e : X.take (k + 1) = X.take k ++ [gt X k] := by
    rw [List.take_succ_eq_append_getElem hk]
    simp [gt, hk]
  unfold tdP
  rw [e]
  have hgm : gt X k ∈ X := by simp [gt, hk]
  refine tid_step (fun x hx => hX x (List.mem_of_mem_take hx)) (hX _ hgm) ?_
  rintro q ⟨x, hx, h1, h2⟩
  obtain ⟨i, hi, rfl⟩ := List.mem_iff_getElem.1 hx
  rw [List.length_take] at hi
  have := List.pairwise_iff_getElem.1 hs i k (by omega) hk (by omega)
  have e2 : gt X k = X[k] := by simp [gt, hk]
  rw [List.getElem_take] at h2
  rw [e2]
  omega
theorem tdP_v {X : List Cl} (hX : AllV X) (k : Nat) : AllV (tdP X k) := can_v _ fun x hx => hX x (List.mem_of_mem_take hx)
theorem tdP_len {X : List Cl} (hX : AllV X) (k : Nat) : (tdP X k).length ≤ k := by
  have := canonC_len (X.take k) (fun x hx => hX x (List.mem_of_mem_take hx))
  have := List.length_take_le k X
  unfold tdP
  omega
/-! ### around a place: finer is smaller, and each cell meets the place -/
theorem arn_finer {mt : Cl → Bool} {lev : Int} (h16 : lev < 16) : ∀ (f : Nat) (c : Cl), Vl c → c.1 + (f : Int) = lev → ∀ q, covL (arnL mt (lev + 1) (f + 1) c) q → covL (arnL mt lev f c) q := by
  intro f
  induction f with
  | zero =>
    intro c hc hl q h
    have h' := (arn_v (mt := mt) (lev := lev + 1) (by omega) 1 c hc (by omega)).2 q h
    unfold arnL at h ⊢
    split at h
    · rename_i hm
      rw [if_pos hm, if_pos (by omega)]
      exact h'
    · obtain ⟨x, hx, -⟩ := h; cases hx
  | succ f ih =>
    intro c hc hl q h
    have hlt : c.1 < 16 := by omega
    unfold arnL at h ⊢
    split at h
    · rename_i hm
      rw [if_neg (by omega)] at h
      rw [if_pos hm, if_neg (by omega)]
      obtain ⟨x, hx, hq⟩ := h
      obtain ⟨y, hy, hxy⟩ := List.mem_flatMap.1 hx
      have hyl : y.1 + (f : Int) = lev := by
        simp only [kidsC, kids, List.mem_cons, List.not_mem_nil, or_false] at hy
        rcases hy with rfl | rfl | rfl | rfl <;> (simp only []; omega)
      obtain ⟨z, hz, hzq⟩ := ih y (kids_vl hc hlt y hy) hyl q ⟨x, hxy, hq⟩
      exact ⟨z, List.mem_flatMap.2 ⟨y, hy, hz⟩, hzq⟩
    · obtain ⟨x, hx, -⟩ := h; cases hx
theorem arnA_finer {mt : Cl → Bool} {lev : Int} (h0 : 0 ≤ lev) (h16 : lev < 16) (q : Nat) (h : covL (arnA mt (lev + 1)) q) : covL (arnA mt lev) q := by
  have e : (lev + 1).toNat = lev.toNat + 1 := by omega
  unfold arnA at h ⊢
  rw [e] at h
  rw [cov_appL] at h ⊢
  exact h.imp (arn_finer h16 _ _ (top_vl 0 (by omega) (by omega)) (by simp only []; omega) q) (arn_finer h16 _ _ (top_vl 1 (by omega) (by omega)) (by simp only []; omega) q)
theorem arn_mem {mt : Cl → Bool} {lev : Int} : ∀ (f : Nat) (c : Cl), ∀ x ∈ arnL mt lev f c, x.1 = lev ∧ mt x = true := by
  intro f
  induction f with
  | zero =>
    intro c x hx
    unfold arnL at hx
    split at hx
    · split at hx
      · simp at hx; subst hx; rename_i h1 h2; exact ⟨h2, h1⟩
      · cases hx
    · cases hx
  | succ f ih =>
    intro c x hx
    unfold arnL at hx
    split at hx
    · split at hx
      · simp at hx; subst hx; rename_i h1 h2; exact ⟨h2, h1⟩
      · obtain ⟨y, -, hxy⟩ := List.mem_flatMap.1 hx
        exact ih y x hxy
    · cases hx
theorem down_nst : ∀ (f : Nat) (c d : Cl), Vl c → Vl d → c.1 + (f : Int) = d.1 → ∀ q, covL [c] q → covL [d] q → nst (bxI d) (bxI c) := by
  intro f
  induction f with
  | zero =>
    intro c d hc hd hl q h1 h2
    have : d = c := by rw [cov_at hd h2, cov_at hc h1, show d.1 = c.1 by omega]
    rw [this]
    exact nst.refl _
  | succ f ih =>
    intro c d hc hd hl q h1 h2
    have hlt : c.1 < 16 := by have := hd.l1; omega
    obtain ⟨k1, k2, -⟩ := at_kid hc hlt h1
    have hkv := kids_vl hc hlt _ k1
    have hk1 : (cellAt q (c.1.toNat + 1)).1 = c.1 + 1 := by
      have h0 := hc.l0
      generalize cellAt q (c.1.toNat + 1) = x at k1
      simp only [kidsC, kids, List.mem_cons, List.not_mem_nil, or_false] at k1
      rcases k1 with rfl | rfl | rfl | rfl <;> rfl
    have hn := kid_nest hc hlt k1
    exact (ih _ d hkv hd (by omega) q k2 h2).trans ⟨hn.1, hn.2.1, hn.2.2.1, hn.2.2.2⟩
theorem arn_meets {p : Bx} (hp : VP p) {lev : Int} (h0 : 0 ≤ lev) (h16 : lev ≤ 16) : ∀ c ∈ canonC (covL (arnA (mtP p) lev)), meetB (bxI c) p = true := by
  intro c hc
  have hX := arnA_v (mt := mtP p) h0 h16
  have hcv := can_v _ hX c hc
  have hq : covL [c] (spF c) := (cov_one c _).2 ⟨Nat.le_refl _, sp_pos c⟩
  obtain ⟨d, hd, hdq⟩ := (can_cov hX (spF c)).1 ((by rw [cov_one] at hq; exact ⟨c, hc, hq⟩))
  have hdq := (cov_one d _).2 hdq
  have hdv := hX d hd
  have hle := can_great hc hcv hdv hq hdq (fun q h => by rw [cov_one] at h; exact ⟨d, hd, h⟩)
  have hn := down_nst (d.1 - c.1).toNat c d hcv hdv (by omega) (spF c) hq hdq
  have hm : meetB p (bxI d) = true := by
    unfold arnA at hd
    rcases List.mem_append.1 hd with h | h
    · exact (arn_mem _ _ d h).2
    · exact (arn_mem _ _ d h).2
  obtain ⟨y, x, i1, i2⟩ := meet_pt hp (bxI_vp hdv) hm
  exact pt_meet (bxI_vp hcv) hp (nst_pt hn (bx_facts hcv).2.2.2.2.2.2.1 i2) i1
end Go.Proofs.YtpemohoibeipfaaGreat
