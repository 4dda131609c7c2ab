/- The walk of the reference's within. -/
import Derived.Deep.RegionHeld3
import Derived.Deep.Cut
import Derived.Deep.DeepCutAuto
import Derived.Test.YtifdgdgfmjfbdaaGreatHCanon
import Derived.Test.YtifdgdgfmjfbdaaGreatHWn
import Derived.Test.YtifdgdgfmjfbdaaGreatHWj
set_option linter.unusedVariables false
set_option linter.unusedSimpArgs false
namespace Go.Proofs.YtifdgdgfmjfbdaaGreat
open Canon
/-! ### what cover makes: spans that do not touch, with the same numbers -/
/-- spans in order that do not touch -/
def ApartI (D : List Sp) : Prop := D.Pairwise (fun s t => s.2 < t.1) ∧ ∀ s ∈ D, s.1 < s.2
def inI (D : List Sp) (q : Int) : Prop := ∃ s ∈ D, s.1 ≤ q ∧ q < s.2
theorem mrg_good (M : List Sp) (s : Sp) (hM : ApartI M) (hs : s.1 < s.2) (hle : ∀ m ∈ M, m.1 ≤ s.1) :
    ApartI (mrg M s) ∧ (∀ m ∈ mrg M s, m.1 ≤ s.1) ∧ ∀ q, inI (mrg M s) q ↔ (inI M q ∨ (s.1 ≤ q ∧ q < s.2)) := by
  rcases snoc_cases M with rfl | ⟨M', t, rfl⟩
  · rw [mrg_nil]
    refine ⟨⟨by simp, by simpa using hs⟩, by simp, fun q => by simp [inI]⟩
  · obtain ⟨hp, hne⟩ := hM
    rw [List.pairwise_append] at hp
    obtain ⟨hp1, _, hp2⟩ := hp
    have ht := hne t (by simp)
    have hts := hle t (by simp)
    by_cases h : s.1 ≤ t.2
    · rw [mrg_in M' t s h]
      refine ⟨⟨?_, ?_⟩, ?_, ?_⟩
      · rw [List.pairwise_append]
        refine ⟨hp1, by simp, fun a ha b hb => ?_⟩
        simp only [List.mem_singleton] at hb
        subst hb
        exact hp2 a ha t (by simp)
      · intro m hm
        simp only [List.mem_append, List.mem_singleton] at hm
        rcases hm with hm | rfl
        · exact hne m (by simp [hm])
        · simp only []; omega
      · intro m hm
        simp only [List.mem_append, List.mem_singleton] at hm
        rcases hm with hm | rfl
        · exact hle m (by simp [hm])
        · exact hts
      · intro q
        simp only [inI, List.mem_append, List.mem_singleton]
        constructor
        · rintro ⟨m, hm | rfl, h1, h2⟩
          · exact .inl ⟨m, .inl hm, h1, h2⟩
          · simp only [] at h1 h2
            by_cases hq : q < t.2
            · exact .inl ⟨t, .inr rfl, h1, hq⟩
            · exact .inr ⟨by omega, by omega⟩
        · rintro (⟨m, hm | rfl, h1, h2⟩ | ⟨h1, h2⟩)
          · exact ⟨m, .inl hm, h1, h2⟩
          · exact ⟨_, .inr rfl, h1, by simp only []; omega⟩
          · exact ⟨_, .inr rfl, by simp only []; omega, by simp only []; omega⟩
    · rw [mrg_out M' t s h]
      refine ⟨⟨?_, ?_⟩, ?_, ?_⟩
      · rw [List.pairwise_append]
        refine ⟨List.pairwise_append.2 ⟨hp1, by simp, hp2⟩, by simp, fun a ha b hb => ?_⟩
        simp only [List.mem_singleton] at hb
        subst hb
        simp only [List.mem_append, List.mem_singleton] at ha
        rcases ha with ha | rfl
        · have := hp2 a ha t (by simp); omega
        · omega
      · intro m hm
        rw [List.mem_append, List.mem_singleton] at hm
        rcases hm with hm | rfl
        · exact hne m hm
        · exact hs
      · intro m hm
        rw [List.mem_append, List.mem_singleton] at hm
        rcases hm with hm | rfl
        · exact hle m hm
        · exact Int.le_refl _
      · intro q
        unfold inI
        constructor
        · rintro ⟨m, hm, h1, h2⟩
          rw [List.mem_append, List.mem_singleton] at hm
          rcases hm with hm | rfl
          · exact .inl ⟨m, hm, h1, h2⟩
          · exact .inr ⟨h1, h2⟩
        · rintro (⟨m, hm, h1, h2⟩ | ⟨h1, h2⟩)
          · exact ⟨m, by rw [List.mem_append]; exact .inl hm, h1, h2⟩
          · exact ⟨s, by simp, h1, h2⟩
theorem fold_good : ∀ (D M : List Sp), ApartI M → (∀ s ∈ D, s.1 < s.2) → D.Pairwise (fun s t => s.1 ≤ t.1) → (∀ m ∈ M, ∀ s ∈ D, m.1 ≤ s.1) →
    ApartI (D.foldl mrg M) ∧ ∀ q, inI (D.foldl mrg M) q ↔ (inI M q ∨ inI D q)
  | [], M, hM, _, _, _ => ⟨hM, fun q => by simp [inI]⟩
  | d :: D, M, hM, hne, hp, hle => by
    rw [List.pairwise_cons] at hp
    obtain ⟨g1, g2, g3⟩ := mrg_good M d hM (hne d (by simp)) (fun m hm => hle m hm d (by simp))
    obtain ⟨k1, k2⟩ := fold_good D (mrg M d) g1 (fun s hs => hne s (by simp [hs])) hp.2 (fun m hm s hs => by have := g2 m hm; have := hp.1 s hs; omega)
    refine ⟨k1, fun q => ?_⟩
    rw [List.foldl_cons, k2, g3]
    constructor
    · rintro ((h | h) | ⟨s, hs, h⟩)
      · exact .inl h
      · exact .inr ⟨d, by simp, h⟩
      · exact .inr ⟨s, by simp [hs], h⟩
    · rintro (h | ⟨s, hs, h⟩)
      · exact .inl (.inl h)
      · rw [List.mem_cons] at hs
        rcases hs with rfl | hs
        · exact .inl (.inr h)
        · exact .inr ⟨s, hs, h⟩
theorem sortS_sorted (D : List Sp) : (sortS D).Pairwise (fun s t => s.1 ≤ t.1) := by
  have h := List.pairwise_mergeSort (le := fun x y => !(ltOf cmpS) y x) (by
    intro a b c h1 h2
    simp only [Bool.not_eq_true', ltOf_cmpS, decide_eq_false_iff_not] at *
    omega) (by
    intro a b
    simp only [Bool.or_eq_true, Bool.not_eq_true', ltOf_cmpS, decide_eq_false_iff_not]
    omega) D
  refine pairs_less ?_ h
  intro a b h
  simp only [Bool.not_eq_true', ltOf_cmpS, decide_eq_false_iff_not] at h
  omega
theorem cover_good (L : List Cl) (hv : ∀ x ∈ L, vldB x.1 x.2.1 x.2.2 = true) : ApartI (coverL L) ∧ ∀ q, inI (coverL L) q ↔ ∃ x ∈ L, (spF x : Int) ≤ q ∧ q < (spT x : Int) := by
  have hm : ∀ s, s ∈ sortS (L.map spI) ↔ ∃ x ∈ L, spI x = s := fun s => by
    unfold sortS
    rw [List.mem_mergeSort, List.mem_map]
  obtain ⟨h1, h2⟩ := fold_good (sortS (L.map spI)) [] ⟨by simp, by simp⟩ (fun s hs => by
    obtain ⟨x, hx, rfl⟩ := (hm s).1 hs
    exact (spOk_spI x (hv x hx)).2.1) (sortS_sorted _) (by simp)
  refine ⟨h1, fun q => ?_⟩
  have := h2 q
  show inI ((sortS (L.map spI)).foldl mrg []) q ↔ _
  rw [this]
  constructor
  · rintro (⟨s, hs, _⟩ | ⟨s, hs, h⟩)
    · simp at hs
    · obtain ⟨x, hx, rfl⟩ := (hm s).1 hs
      exact ⟨x, hx, h⟩
  · rintro ⟨x, hx, h⟩
    exact .inr ⟨spI x, (hm _).2 ⟨x, hx, rfl⟩, h⟩
/-! ### cells and blocks -/
def blkOf (x : Cl) : Blk2 := (16 - x.1.toNat, mortI x)
def cellB (b : Blk2) : Cl := cellN b.2 (16 - b.1)
theorem blkOf_cellB (b : Blk2) (h : b.1 ≤ 16) : blkOf (cellB b) = b := by
  obtain ⟨k, n⟩ := b
  simp only [] at h
  have e : mortI (cellN n (16 - k)) = n := by
    unfold mortI cellN
    simp only [Int.toNat_natCast]
    exact mort_of _ n
  unfold blkOf cellB
  rw [e]
  have : ((cellN n (16 - k)).1).toNat = 16 - k := by simp [cellN]
  simp only [this]
  exact Prod.ext (by simp only []; omega) rfl
structure Vl (x : Cl) : Prop where
  l0 : 0 ≤ x.1
  l1 : x.1 ≤ 16
  r0 : 0 ≤ x.2.1
  r1 : x.2.1.toNat < 2 ^ x.1.toNat
  c0 : 0 ≤ x.2.2
  c1 : x.2.2.toNat < 2 * 2 ^ x.1.toNat
theorem vl_iff (x : Cl) : vldB x.1 x.2.1 x.2.2 = true ↔ Vl x := by
  have e : ∀ l : Int, pw l = ((2 ^ l.toNat : Nat) : Int) := fun l => by unfold pw; simp
  rw [vldB_true, e]
  generalize hp : 2 ^ x.1.toNat = p
  constructor
  · rintro ⟨h0, h1, h2, h3, h4, h5⟩
    exact ⟨h0, h1, h2, by rw [hp]; omega, h4, by rw [hp]; omega⟩
  · rintro ⟨h0, h1, h2, h3, h4, h5⟩
    rw [hp] at h3 h5
    exact ⟨h0, h1, h2, by omega, h4, by omega⟩
theorem blkOf_inj {x y : Cl} (hx : Vl x) (hy : Vl y) (h : blkOf x = blkOf y) : x = y := by
  obtain ⟨l, r, c⟩ := x
  obtain ⟨l', r', c'⟩ := y
  obtain ⟨a0, a1, a2, a3, a4, a5⟩ := hx
  obtain ⟨b0, b1, b2, b3, b4, b5⟩ := hy
  simp only [blkOf, mortI, Prod.mk.injEq] at *
  obtain ⟨h1, h2⟩ := h
  have hl : l.toNat = l'.toNat := by omega
  rw [← hl] at h2 b3
  obtain ⟨e1, e2⟩ := mort_inj _ _ _ _ _ a3 b3 h2
  exact ⟨by omega, by omega, by omega⟩
theorem cellB_vl (b : Blk2) (h : b.1 ≤ 16) (hn : b.2 < 2 * 4 ^ (16 - b.1)) : Vl (cellB b) := by
  obtain ⟨k, n⟩ := b
  simp only [] at h hn
  have e1 := rwTo_lt (16 - k) n
  have e2 := colOf_lt (16 - k) n hn
  refine ⟨?_, ?_, ?_, ?_, ?_, ?_⟩ <;> simp only [cellB, cellN, Int.toNat_natCast] <;> omega
theorem blk_lt (x : Cl) (hx : Vl x) : (blkOf x).1 ≤ 16 ∧ (blkOf x).2 < 2 * 4 ^ (16 - (blkOf x).1) := by
  have := mort_lt x.1.toNat x.2.1.toNat x.2.2.toNat hx.c1
  have h1 := hx.l1
  have h0 := hx.l0
  refine ⟨by simp [blkOf], ?_⟩
  have e : 16 - (blkOf x).1 = x.1.toNat := by simp only [blkOf]; omega
  rw [e]
  exact this
theorem cellB_blkOf (x : Cl) (hx : Vl x) : cellB (blkOf x) = x := by
  obtain ⟨h1, h2⟩ := blk_lt x hx
  exact blkOf_inj (cellB_vl _ h1 h2) hx (blkOf_cellB _ h1)
theorem spF_blk (x : Cl) : spF x = (blkOf x).2 * 4 ^ (blkOf x).1 := rfl
theorem spT_blk (x : Cl) : spT x = ((blkOf x).2 + 1) * 4 ^ (blkOf x).1 := rfl
theorem covB_map (L : List Cl) (q : Nat) : covB (L.map blkOf) q = true ↔ ∃ x ∈ L, spF x ≤ q ∧ q < spT x := by
  rw [covS]
  simp only [List.mem_map]
  constructor
  · rintro ⟨b, ⟨x, hx, rfl⟩, h⟩; exact ⟨x, hx, h⟩
  · rintro ⟨x, hx, h⟩; exact ⟨_, ⟨x, hx, rfl⟩, h⟩
/-! ### what tidy makes -/
theorem lvH_lv (f t : Nat) : ∀ l, l ≤ 16 → lvH f t l = 16 - lv f t l
  | 0, _ => rfl
  | l + 1, h => by
    unfold lvH lv csz
    have ih := lvH_lv f t l (by omega)
    split
    · rfl
    · exact ih
theorem cutFu_map : ∀ (fu f t : Nat), cutFu fu f t = (cutBu fu f t).map cellB
  | 0, _, _ => rfl
  | fu + 1, f, t => by
    unfold cutFu cutBu
    have e := lvH_lv f t 16 (Nat.le_refl _)
    have hl := lv_le f t 16
    have e2 : csz (lv f t 16) = 4 ^ lvH f t 16 := by rw [e]; rfl
    split
    · rw [List.map_cons, cutFu_map fu, e2]
      congr 1
      unfold cellB
      simp only [e]
      rw [show 16 - (16 - lv f t 16) = lv f t 16 by omega]
    · rfl
def natS (s : Sp) : Nat × Nat := (s.1.toNat, s.2.toNat)
theorem tidyL_map (D : List Sp) : tidyL D = (tidyB (D.map natS)).map cellB := by
  unfold tidyL tidyB
  rw [List.map_flatMap, List.flatMap_map]
  congr 1
  funext s
  exact cutFu_map _ _ _
theorem apart_nat {D : List Sp} (h : ApartI D) (hk : SpOk D) : Apart (D.map natS) := by
  refine ⟨?_, ?_⟩
  · rw [List.pairwise_map]
    refine (List.pairwise_iff_forall_sublist.2 ?_ : D.Pairwise _)
    intro a b hab
    have hs := hab.subset
    have ha := hk a (hs (by simp))
    have hb := hk b (hs (by simp))
    have := (List.pairwise_iff_forall_sublist.1 h.1) hab
    simp only [natS]
    omega
  · intro s hs
    obtain ⟨x, hx, rfl⟩ := List.mem_map.1 hs
    have := hk x hx
    simp only [natS]
    omega
theorem inD_nat {D : List Sp} (hk : SpOk D) (q : Nat) : inD (D.map natS) q ↔ inI D q := by
  unfold inD inI
  constructor
  · rintro ⟨s, hs, h1, h2⟩
    obtain ⟨x, hx, rfl⟩ := List.mem_map.1 hs
    have := hk x hx
    simp only [natS] at h1 h2
    exact ⟨x, hx, by omega, by omega⟩
  · rintro ⟨x, hx, h1, h2⟩
    have := hk x hx
    exact ⟨natS x, List.mem_map.2 ⟨x, hx, rfl⟩, by simp only [natS]; omega, by simp only [natS]; omega⟩
/-- the region of the greatest cells of a set of numbers -/
noncomputable def canonC (S : Nat → Prop) : List Cl := (canon S 16 0 ++ canon S 16 1).map cellB
theorem canonC_congr {S T : Nat → Prop} (h : ∀ q, S q ↔ T q) : canonC S = canonC T := by
  have : S = T := funext fun q => propext (h q)
  rw [this]
theorem tidyL_canon {D : List Sp} (h : ApartI D) (hk : SpOk D) : tidyL D = canonC (fun q => inI D q) := by
  rw [tidyL_map, tidyB_canon (apart_nat h hk) (fun s hs => by
    obtain ⟨x, hx, rfl⟩ := List.mem_map.1 hs
    have := hk x hx
    simp only [natS]
    omega)]
  exact canonC_congr (inD_nat hk)
/-- the numbers that a list of cells covers -/
def covL (L : List Cl) (q : Nat) : Prop := ∃ x ∈ L, spF x ≤ q ∧ q < spT x
theorem tidy_cover (L : List Cl) (hv : ∀ x ∈ L, vldB x.1 x.2.1 x.2.2 = true) : tidyL (coverL L) = canonC (covL L) := by
  obtain ⟨h1, h2⟩ := cover_good L hv
  rw [tidyL_canon h1 (spOk_cover L hv)]
  refine canonC_congr fun q => (h2 q).trans ?_
  unfold covL
  constructor
  · rintro ⟨x, hx, a, b⟩; exact ⟨x, hx, by omega, by omega⟩
  · rintro ⟨x, hx, a, b⟩; exact ⟨x, hx, by omega, by omega⟩
end Go.Proofs.YtifdgdgfmjfbdaaGreat
namespace Go.Proofs.YtifdgdgfmjfbdaaGreat
open Go.RowKit
/-- whether a cell is inside another one -/
def wiB (x y : Cl) : Bool := decide (y.1 ≤ x.1 ∧ x.2.1 / 2 ^ (x.1 - y.1).toNat = y.2.1 ∧ x.2.2 / 2 ^ (x.1 - y.1).toNat = y.2.2)
set_option maxHeartbeats 1000000 in
set_option maxRecDepth 100000 in
theorem Within_any (l r c l' r' c' : Int) (w : World) (h0 : 0 ≤ l) (h1 : l ≤ 16) (h2 : 0 ≤ l') (h3 : l' ≤ 16) :
    Calls Tryz.prog 78 #[.agg #[.int .i64 l, .int .i64 r, .int .i64 c], .agg #[.int .i64 l', .int .i64 r', .int .i64 c']] w fun e w' => e = .returned (.bool (wiB (l, r, c) (l', r', c'))) ∧ Below w.heap.size w w' := by
  have s0 : IntKind.i64.wrap (l - l') = l - l' := IntWalk.i64_in _ (by omega)
  by_cases g0 : l' ≤ l
  · have g0' : 0 ≤ l - l' := by clear s0; omega
    have g1' : l - l' ≤ 64 := by clear s0; omega
    by_cases g1 : r / 2 ^ (l - l').toNat = r'
    · have e1 : (r / 2 ^ (l - l').toNat == r') = true := by simp [g1]
      by_cases g2 : c / 2 ^ (l - l').toNat = c'
      · have e2 : (c / 2 ^ (l - l').toNat == c') = true := by simp [g2]
        have hv : wiB (l, r, c) (l', r', c') = true := by simp [wiB, g0, g1, g2]
        rw [hv]
        clear hv g1 g2
        go_enter Tryz.func78, Tryz.ntmps78
        go_wp2
        go_quiet (fail)
        go_wp2
        go_ret
        refine ⟨rfl, ?_⟩
        clear s0 e1 e2
        repeat (first | exact Below.refl _ _ | assumption | refine bl_drew ?_ | refine bl_drewN ?_ _ | refine Below.setCell ?_ (by first | assumption | omega | (simp; done) | (simp; omega)) _ | refine Below.alloc ?_ (by first | assumption | omega | (simp; done) | (simp; omega)) _)
      · have e2 : (c / 2 ^ (l - l').toNat == c') = false := by simp [g2]
        have hv : wiB (l, r, c) (l', r', c') = false := by simp [wiB, g0, g1, g2]
        rw [hv]
        clear hv g1 g2
        go_enter Tryz.func78, Tryz.ntmps78
        go_wp2
        go_quiet (fail)
        go_wp2
        go_ret
        refine ⟨rfl, ?_⟩
        clear s0 e1 e2
        repeat (first | exact Below.refl _ _ | assumption | refine bl_drew ?_ | refine bl_drewN ?_ _ | refine Below.setCell ?_ (by first | assumption | omega | (simp; done) | (simp; omega)) _ | refine Below.alloc ?_ (by first | assumption | omega | (simp; done) | (simp; omega)) _)
    · have e1 : (r / 2 ^ (l - l').toNat == r') = false := by simp [g1]
      have hv : wiB (l, r, c) (l', r', c') = false := by simp [wiB, g0, g1]
      rw [hv]
      clear hv g1
      go_enter Tryz.func78, Tryz.ntmps78
      go_wp2
      go_quiet (fail)
      go_wp2
      go_ret
      refine ⟨rfl, ?_⟩
      clear s0 e1
      repeat (first | exact Below.refl _ _ | assumption | refine bl_drew ?_ | refine bl_drewN ?_ _ | refine Below.setCell ?_ (by first | assumption | omega | (simp; done) | (simp; omega)) _ | refine Below.alloc ?_ (by first | assumption | omega | (simp; done) | (simp; omega)) _)
  · have hd := decide_eq_false g0
    have hd2 : decide (0 ≤ l - l') = false := decide_eq_false (by clear s0; omega)
    have hv : wiB (l, r, c) (l', r', c') = false := by simp [wiB, g0]
    rw [hv]
    clear hv
    go_enter Tryz.func78, Tryz.ntmps78
    go_wp2
    go_quiet (fail)
    go_wp2
    go_ret
    refine ⟨rfl, ?_⟩
    clear s0
    repeat (first | exact Below.refl _ _ | assumption | refine bl_drew ?_ | refine bl_drewN ?_ _ | refine Below.setCell ?_ (by first | assumption | omega | (simp; done) | (simp; omega)) _ | refine Below.alloc ?_ (by first | assumption | omega | (simp; done) | (simp; omega)) _)
end Go.Proofs.YtifdgdgfmjfbdaaGreat
namespace Go.Proofs.YtifdgdgfmjfbdaaGreat
open Go.RowKit
def hasB (L : List Cl) (x : Cl) : Bool := L.any fun y => ceq y x
theorem hasB_succ (L : List Cl) (x : Cl) (k : Nat) (hk : k < L.length) (h : hasB (L.take k) x = false) (hp : ceq (gt L k) x = false) : hasB (L.take (k + 1)) x = false := any_take_succ L _ k hk h hp
set_option maxHeartbeats 1000000 in
set_option maxRecDepth 100000 in
theorem has_any (A : Option Addr) (n ca : Nat) (L : List Cl) (l r c : Int) (w : World) (hr : Reads w w.heap.size 3 A n (cvs L)) (hn : n ≤ maxLen) :
    Calls Tryz.prog 207 #[.slice A n ca, .agg #[.int .i64 l, .int .i64 r, .int .i64 c]] w fun e w' => e = .returned (.bool (hasB L (l, r, c))) ∧ Below w.heap.size w w' := by
  have HL := Lib.hid hr.len
  have HR := Lib.hid hr
  clear hr
  unfold maxLen at hn
  have hq := eqlCell
  go_enter Tryz.func207, Tryz.ntmps207
  go_wp2
  go_loopw [5] (fun i wr => ∃ k q : Nat, k ≤ n ∧ i = .int .i64 k ∧ hasB (L.take k) (l, r, c) = false ∧ wr = (w.alloc (.cells #[.int .i64 l, .int .i64 r, .int .i64 c] 102)).drewN q) (fun i _ => n - (intOf i).toNat)
  case atStart => exact ⟨0, 0, Nat.zero_le _, rfl, rfl, rfl⟩
  case round =>
    obtain ⟨k, q, hk, rfl, hh, rfl⟩ := hrel
    have HH := Lib.hid hh
    clear hh
    by_cases hlt : k < n
    · obtain ⟨b, off, rfl, hb, x1, x2, x3⟩ := HR.out.elem hlt
      have hkl : k < L.length := by rw [HL.out]; exact hlt
      have h1 := Lib.hid (hasB_succ L (l, r, c) k hkl HH.out)
      have h2 := Lib.hid (any_of_gt L (fun y => ceq y (l, r, c)) k hkl)
      generalize gt L k = y at x1 x2 x3 h1 h2
      obtain ⟨ya, yb, yc⟩ := y
      simp only [] at x1 x2 x3
      cases hc : ceq (ya, yb, yc) (l, r, c) with
      | true =>
        have h3 := Lib.hid (h2.out hc)
        clear h1 h2
        go_wp2
        go_quiet (fail)
        go_wp2
        go_ret
        refine ⟨ret_bool h3.out.symm, ?_⟩
        repeat (first | exact Below.refl _ _ | assumption | refine bl_drew ?_ | refine bl_drewN ?_ _ | refine Below.setCell ?_ (by first | assumption | omega | (simp; done) | (simp; omega)) _ | refine Below.alloc ?_ (by first | assumption | omega | (simp; done) | (simp; omega)) _)
      | false =>
        have h3 := Lib.hid (h1.out hc)
        clear h1 h2
        go_wp2
        go_quiet (fail)
        go_wp2
        go_roundw
        case rel => exact ⟨k + 1, q + nq, by omega, by go_num, h3.out, rfl⟩
        case measure => simp [intOf]; omega
    · go_wp2
      go_ret
      have h := HH.out
      rw [List.take_of_length_le (by rw [HL.out]; omega)] at h
      refine ⟨ret_bool h.symm, ?_⟩
      repeat (first | exact Below.refl _ _ | assumption | refine bl_drew ?_ | refine bl_drewN ?_ _ | refine Below.setCell ?_ (by first | assumption | omega | (simp; done) | (simp; omega)) _ | refine Below.alloc ?_ (by first | assumption | omega | (simp; done) | (simp; omega)) _)
def opB (op : Int) (x y : Bool) : Bool := if op = 1 then x || y else if op = 2 then x && y else x && !y
set_option maxHeartbeats 1000000 in
theorem holds_any (op : Int) (x y : Bool) (w : World) (h : op = 1 ∨ op = 2 ∨ op = 3) :
    Calls Tryz.prog 209 #[.int .i64 op, .bool x, .bool y] w fun e w' => e = .returned (.bool (opB op x y)) ∧ w' = w := by
  rcases h with rfl | rfl | rfl
  all_goals
    cases x <;> cases y
    all_goals
      go_enter Tryz.func209, Tryz.ntmps209
      go_wp2
      go_ret
      exact ⟨rfl, rfl⟩
end Go.Proofs.YtifdgdgfmjfbdaaGreat
namespace Go.Proofs.YtifdgdgfmjfbdaaGreat
open Go.RowKit
/-- a number at a level of its ancestors -/
def anc (r l : Int) (k : Nat) : Int := r / 2 ^ (l.toNat - k)
/-- the first difference of the ancestors, from a level on -/
def befF (x y : Cl) : Nat → Nat → Bool
  | 0, _ => false
  | f + 1, k =>
    if anc x.2.1 x.1 k = anc y.2.1 y.1 k then
      if anc x.2.2 x.1 k = anc y.2.2 y.1 k then befF x y f (k + 1) else decide (anc x.2.2 x.1 k < anc y.2.2 y.1 k)
    else decide (anc x.2.1 x.1 k < anc y.2.1 y.1 k)
def befB (x y : Cl) : Bool := befF x y ((min x.1 y.1).toNat + 1) 0
set_option maxHeartbeats 1000000 in
set_option maxRecDepth 100000 in
theorem before_any (l r c l' r' c' : Int) (w : World) (h0 : 0 ≤ l) (h1 : l ≤ 16) (h2 : 0 ≤ l') (h3 : l' ≤ 16) :
    Calls Tryz.prog 79 #[.agg #[.int .i64 l, .int .i64 r, .int .i64 c], .agg #[.int .i64 l', .int .i64 r', .int .i64 c']] w fun e w' => e = .returned (.bool (befB (l, r, c) (l', r', c'))) ∧ Below w.heap.size w w' := by
  go_enter Tryz.func79, Tryz.ntmps79
  go_wp2
  go_loopw [5] (fun i wr => ∃ k q : Nat, k ≤ (min l l').toNat + 1 ∧ i = .int .i64 k ∧ befF (l, r, c) (l', r', c') ((min l l').toNat + 1 - k) k = befB (l, r, c) (l', r', c') ∧ wr = ((w.alloc (.cells #[.int .i64 l, .int .i64 r, .int .i64 c] 102)).alloc (.cells #[.int .i64 l', .int .i64 r', .int .i64 c'] 102)).drewN q) (fun i _ => 20 - (intOf i).toNat)
  case atStart => exact ⟨0, 0, Nat.zero_le _, rfl, rfl, rfl⟩
  case round =>
    obtain ⟨k, q, hk, rfl, hh, rfl⟩ := hrel
    by_cases g1 : (k : Int) ≤ l
    · by_cases g2 : (k : Int) ≤ l'
      · have hf : (min l l').toNat + 1 - k = ((min l l').toNat + 1 - (k + 1)) + 1 := by omega
        rw [hf] at hh
        unfold befF at hh
        simp only [] at hh
        have hk2 : k + 1 ≤ (min l l').toNat + 1 := by omega
        have HK := Lib.hid hk2
        clear hk hf hk2
        have s1 : IntKind.i64.wrap (l - k) = l - k := IntWalk.i64_in _ (by omega)
        have s2 : IntKind.i64.wrap (l' - k) = l' - k := IntWalk.i64_in _ (by omega)
        have p1 : 0 ≤ l - (k : Int) := by clear s1 s2; omega
        have p2 : 0 ≤ l' - (k : Int) := by clear s1 s2; omega
        have p3 : l - (k : Int) ≤ 64 := by clear s1 s2; omega
        have p4 : l' - (k : Int) ≤ 64 := by clear s1 s2; omega
        have d1 : anc r l k = r / 2 ^ (l.toNat - k) := rfl
        have d2 : anc r' l' k = r' / 2 ^ (l'.toNat - k) := rfl
        have d3 : anc c l k = c / 2 ^ (l.toNat - k) := rfl
        have d4 : anc c' l' k = c' / 2 ^ (l'.toNat - k) := rfl
        have D := Lib.hid (And.intro d1 (And.intro d2 (And.intro d3 d4)))
        clear d1 d2 d3 d4
        by_cases g3 : anc r l k = anc r' l' k
        · rw [if_pos g3] at hh
          have e3 : (r / 2 ^ (l.toNat - k) != r' / 2 ^ (l'.toNat - k)) = false := by rw [← D.out.1, ← D.out.2.1]; simp [g3]
          by_cases g4 : anc c l k = anc c' l' k
          · rw [if_pos g4] at hh
            have HH := Lib.hid hh
            clear hh
            have e4 : (c / 2 ^ (l.toNat - k) != c' / 2 ^ (l'.toNat - k)) = false := by rw [← D.out.2.2.1, ← D.out.2.2.2]; simp [g4]
            clear g3 g4
            go_wp2
            go_quiet (fail)
            go_wp2
            go_quiet (fail)
            go_wp2
            go_roundw
            case rel => exact ⟨k + 1, _, HK.out, by go_num, HH.out, rfl⟩
            case measure => clear s1 s2 p1 p2 p3 p4; simp [intOf]; omega
          · rw [if_neg g4] at hh
            have e4 : (c / 2 ^ (l.toNat - k) != c' / 2 ^ (l'.toNat - k)) = true := by rw [← D.out.2.2.1, ← D.out.2.2.2]; simp [g4]
            rw [D.out.2.2.1, D.out.2.2.2] at hh
            have HH := Lib.hid hh
            clear hh g3 g4
            go_wp2
            go_quiet (fail)
            go_wp2
            go_quiet (fail)
            go_wp2
            go_ret
            refine ⟨ret_bool HH.out, ?_⟩
            clear s1 s2
            repeat (first | exact Below.refl _ _ | assumption | refine bl_drew ?_ | refine bl_drewN ?_ _ | refine Below.setCell ?_ (by first | assumption | omega | (simp; done) | (simp; omega)) _ | refine Below.alloc ?_ (by first | assumption | omega | (simp; done) | (simp; omega)) _)
        · rw [if_neg g3] at hh
          have e3 : (r / 2 ^ (l.toNat - k) != r' / 2 ^ (l'.toNat - k)) = true := by rw [← D.out.1, ← D.out.2.1]; simp [g3]
          rw [D.out.1, D.out.2.1] at hh
          have HH := Lib.hid hh
          clear hh g3
          go_wp2
          go_quiet (fail)
          go_wp2
          go_quiet (fail)
          go_wp2
          go_ret
          refine ⟨ret_bool HH.out, ?_⟩
          clear s1 s2
          repeat (first | exact Below.refl _ _ | assumption | refine bl_drew ?_ | refine bl_drewN ?_ _ | refine Below.setCell ?_ (by first | assumption | omega | (simp; done) | (simp; omega)) _ | refine Below.alloc ?_ (by first | assumption | omega | (simp; done) | (simp; omega)) _)
      · have hf : (min l l').toNat + 1 - k = 0 := by omega
        rw [hf] at hh
        have HH := Lib.hid hh
        clear hh hf
        have d2 := decide_eq_false g2
        go_wp2
        go_ret
        refine ⟨ret_bool HH.out, ?_⟩
        repeat (first | exact Below.refl _ _ | assumption | refine bl_drew ?_ | refine bl_drewN ?_ _ | refine Below.setCell ?_ (by first | assumption | omega | (simp; done) | (simp; omega)) _ | refine Below.alloc ?_ (by first | assumption | omega | (simp; done) | (simp; omega)) _)
    · have hf : (min l l').toNat + 1 - k = 0 := by omega
      rw [hf] at hh
      have HH := Lib.hid hh
      clear hh hf
      have d2 := decide_eq_false g1
      go_wp2
      go_ret
      refine ⟨ret_bool HH.out, ?_⟩
      repeat (first | exact Below.refl _ _ | assumption | refine bl_drew ?_ | refine bl_drewN ?_ _ | refine Below.setCell ?_ (by first | assumption | omega | (simp; done) | (simp; omega)) _ | refine Below.alloc ?_ (by first | assumption | omega | (simp; done) | (simp; omega)) _)
end Go.Proofs.YtifdgdgfmjfbdaaGreat
namespace Go.Proofs.YtifdgdgfmjfbdaaGreat
open Go.RowKit
theorem take_gt (L : List Cl) (k : Nat) (hk : k < L.length) : L.take (k + 1) = L.take k ++ [gt L k] := by
  rw [List.take_succ_eq_append_getElem hk]
  simp [gt, hk]
theorem gt_mem (L : List Cl) (k : Nat) (hk : k < L.length) : gt L k ∈ L := by
  simp [gt, hk]
/-- the cells of a list that are inside a cell, and not this -/
def belL (L : List Cl) (x : Cl) : List Cl := L.filter fun y => !ceq y x && wiB y x
theorem belL_yes (L : List Cl) (x : Cl) (k : Nat) (hk : k < L.length) (h : ceq (gt L k) x = false) (h2 : wiB (gt L k) x = true) : belL (L.take (k + 1)) x = belL (L.take k) x ++ [gt L k] := by
  have e : L.take (k + 1) = L.take k ++ [gt L k] := take_gt L k hk
  rw [e, belL, List.filter_append]
  simp [belL, h, h2]
theorem belL_no (L : List Cl) (x : Cl) (k : Nat) (hk : k < L.length) (h : (!ceq (gt L k) x && wiB (gt L k) x) = false) : belL (L.take (k + 1)) x = belL (L.take k) x := by
  have e : L.take (k + 1) = L.take k ++ [gt L k] := take_gt L k hk
  rw [e, belL, List.filter_append]
  simp only [List.filter_cons, h, List.filter_nil]
  simp [belL]
theorem belL_len (L : List Cl) (x : Cl) (k : Nat) : (belL (L.take k) x).length ≤ k := by
  have := List.length_filter_le (fun y => !ceq y x && wiB y x) (L.take k)
  have h2 := List.length_take_le k L
  unfold belL
  omega
set_option maxHeartbeats 1000000 in
set_option maxRecDepth 100000 in
theorem below_any (A : Option Addr) (n ca : Nat) (L : List Cl) (l r c : Int) (w : World) (hr : Reads w w.heap.size 3 A n (cvs L)) (hn : n ≤ 1000000) (hl : ∀ y ∈ L, 0 ≤ y.1 ∧ y.1 ≤ 16) (h0 : 0 ≤ l) (h1 : l ≤ 16) :
    Calls Tryz.prog 208 #[.slice A n ca, .agg #[.int .i64 l, .int .i64 r, .int .i64 c]] w (RetCells1 w (belL L (l, r, c))) := by
  have HL := Lib.hid hr.len
  have HR := Lib.hid hr
  have HV := Lib.hid hl
  clear hr hl
  have hq := neqCell
  obtain ⟨i0, hi0, hz0, hz1, hz2⟩ := info_parts Tryz.infoCell
  go_enter Tryz.func208, Tryz.ntmps208
  go_wp2
  go_loopw [5, 6] (fun v i wr => ∃ k : Nat, k ≤ n ∧ i = .int .i64 k ∧ wr.ownsRow (w.heap.size + 1) 102 3 v (belL (L.take k) (l, r, c)).length (cvs (belL (L.take k) (l, r, c))) ∧ Below (w.heap.size + 1) (w.alloc (.cells #[.int .i64 l, .int .i64 r, .int .i64 c] 102)) wr) (fun _ i _ => n - (intOf i).toNat)
  case atStart => exact ⟨0, Nat.zero_le _, rfl, own_nil _ _ _ _, Below.refl _ _⟩
  case round =>
    obtain ⟨k, hk, rfl, hown, hbr⟩ := hrel
    have hz := hbr.size
    simp at hz
    have q0 : wr.cell? ⟨w.heap.size, 0, none⟩ = some (.int .i64 l) := (hbr.cell (p := ⟨w.heap.size, 0, none⟩) (by simp)).trans (by simp)
    have q1 : wr.cell? ⟨w.heap.size, 1, none⟩ = some (.int .i64 r) := (hbr.cell (p := ⟨w.heap.size, 1, none⟩) (by simp)).trans (by simp)
    have q2 : wr.cell? ⟨w.heap.size, 2, none⟩ = some (.int .i64 c) := (hbr.cell (p := ⟨w.heap.size, 2, none⟩) (by simp)).trans (by simp)
    by_cases hlt : k < n
    · have hR2 : Reads wr w.heap.size 3 A n (cvs L) := (HR.out.alloc (Nat.le_refl _) _).below (hbr.mono (by omega))
      obtain ⟨b, off, rfl, hb, x1, x2, x3⟩ := hR2.elem hlt
      clear hR2
      have hkl : k < L.length := by rw [HL.out]; exact hlt
      have y1 := Lib.hid (belL_yes L (l, r, c) k hkl)
      have y2 := Lib.hid (belL_no L (l, r, c) k hkl)
      have hlv := HV.out _ (gt_mem L k hkl)
      generalize gt L k = y at x1 x2 x3 y1 y2 hlv
      obtain ⟨ya, yb, yc⟩ := y
      simp only [] at x1 x2 x3 hlv
      have W := Lib.hid (fun w => Within_any ya yb yc l r c w hlv.1 hlv.2 h0 h1)
      cases hc : ceq (ya, yb, yc) (l, r, c) with
      | true =>
        have h3 := Lib.hid (y2.out (by simp [hc]))
        clear y1 y2
        go_wp2
        go_quiet (fail)
        go_wp2
        go_roundw
        case rel => exact ⟨k + 1, by omega, by go_num, by rw [h3.out]; exact own_bl hown (bl_drewN (Below.refl _ _) _) (Nat.le_refl _), bl_drewN hbr _⟩
        case measure => simp [intOf]; omega
      | false =>
        have blt : b < wr.heap.size := by omega
        have clt : w.heap.size < wr.heap.size := by omega
        have hlen := belL_len L (l, r, c) k
        go_upto_region 5 with (fail)
        go_region_held3 (fun w' => w'.cell? ⟨b, off + k * 3, none⟩ = some (.int .i64 ya) ∧ w'.cell? ⟨b, off + k * 3 + 1, none⟩ = some (.int .i64 yb) ∧ w'.cell? ⟨b, off + k * 3 + 2, none⟩ = some (.int .i64 yc) ∧ w'.cell? ⟨w.heap.size, 0, none⟩ = some (.int .i64 l) ∧ w'.cell? ⟨w.heap.size, 1, none⟩ = some (.int .i64 r) ∧ w'.cell? ⟨w.heap.size, 2, none⟩ = some (.int .i64 c)) (first | exact ⟨x1, x2, x3, q0, q1, q2⟩ | exact ⟨s1, s2, s3, t0, t1, t2⟩) (first | (go_at_call 78; refine (W.out _).mono ?_; rintro e w9 ⟨rfl, hb9⟩; have s1 := (hb9.cell (p := ⟨b, off + k * 3, none⟩) blt).trans x1; have s2 := (hb9.cell (p := ⟨b, off + k * 3 + 1, none⟩) blt).trans x2; have s3 := (hb9.cell (p := ⟨b, off + k * 3 + 2, none⟩) blt).trans x3; have t0 := (hb9.cell (p := ⟨w.heap.size, 0, none⟩) clt).trans q0; have t1 := (hb9.cell (p := ⟨w.heap.size, 1, none⟩) clt).trans q1; have t2 := (hb9.cell (p := ⟨w.heap.size, 2, none⟩) clt).trans q2))
        clear x1 x2 x3 q0 q1 q2 W
        have hown9 := own_bl (own_bl hown (bl_drew (Below.refl _ _)) (Nat.le_refl _)) hb9 (Nat.le_refl _)
        have hbr9 : Below (w.heap.size + 1) (w.alloc (.cells #[.int .i64 l, .int .i64 r, .int .i64 c] 102)) w9 := (bl_drew hbr).trans (hb9.mono (by simp; omega))
        have hz9 := hbr9.size
        simp at hz9
        clear hown hbr hb9
        cases hw : wiB (ya, yb, yc) (l, r, c) with
        | true =>
          have h3 := Lib.hid (y1.out hc hw)
          clear y1 y2
          go_wp2_with (at_builtin; (refine wpList_append_any _ rfl (.tmp 27) (.tmp 32) _ rfl (w.heap.size + 1) 102 i0 _ 3 24 Tryz.underlying48 hi0 hz0 hz1 hz2 rfl (by decide) u5 _ _ rfl (hown9.alloc _) (w9.heap.size + 1) (some ⟨w9.heap.size, 0, none⟩) 1 1 (cv (ya, yb, yc)) rfl (reads_new w9 _ _ _ _) (cv_one _) (by simp only [maxLen]; omega) (by omega) (by simp; omega) ?_); intro v2 w2 hown2 hg2 hat2)
          go_roundw
          case rel => exact ⟨k + 1, by omega, by go_num, by rw [h3.out, cvs_append, List.length_append]; exact hown2, (hbr9.alloc hz9 _).grown hg2 (by simp; omega) (own_base hown9)⟩
          case measure => simp [intOf]; omega
        | false =>
          have h3 := Lib.hid (y2.out (by simp [hw]))
          clear y1 y2
          go_wp2
          go_roundw
          case rel => exact ⟨k + 1, by omega, by go_num, by rw [h3.out]; exact hown9, hbr9⟩
          case measure => simp [intOf]; omega
    · go_wp2
      go_ret
      rw [List.take_of_length_le (by rw [HL.out]; omega)] at hown
      exact ⟨_, rfl, own_mono hown (by omega), ((bl_alloc w _).trans (hbr.mono (by omega)))⟩
end Go.Proofs.YtifdgdgfmjfbdaaGreat
namespace Go.Proofs.YtifdgdgfmjfbdaaGreat
open Go.RowKit
def kidsC (c : Cl) : List Cl := kids c.1 c.2.1 c.2.2
def wthS (op : Int) (a b : List Cl) (c : Cl) (x y : Bool) (out : List Cl) : List Cl :=
  if a.length = 0 ∧ b.length = 0 then (if opB op x y = true then [c] else []) else if out = kidsC c then [c] else out
/-- what is left of a list inside of a cell -/
def leftL (x : Bool) (a : List Cl) (c : Cl) : List Cl := belL (if x = true then [] else a) c
/-- the reference's recursion -/
def wthL (op : Int) : Nat → List Cl → List Cl → Cl → Bool → Bool → List Cl
  | 0, _, _, _, _, _ => []
  | f + 1, a, b, c, x, y =>
    wthS op (leftL (x || hasB a c) a c) (leftL (y || hasB b c) b c) c (x || hasB a c) (y || hasB b c)
      ((kidsC c).flatMap fun d => wthL op f (leftL (x || hasB a c) a c) (leftL (y || hasB b c) b c) d (x || hasB a c) (y || hasB b c))
theorem wthS_length (op : Int) (a b : List Cl) (c : Cl) (x y : Bool) (out : List Cl) (n : Nat) (h1 : 1 ≤ n) (h : out.length ≤ n) : (wthS op a b c x y out).length ≤ n := by
  unfold wthS
  repeat' split
  all_goals first | exact h | (simp; try omega)
theorem wthL_length (op : Int) (f : Nat) (a b : List Cl) (c : Cl) (x y : Bool) : (wthL op f a b c x y).length ≤ 4 ^ f := by
  induction f generalizing a b c x y with
  | zero => simp [wthL]
  | succ f ih =>
    have h4 : 1 ≤ 4 ^ f := Nat.pow_pos (by omega)
    unfold wthL
    generalize leftL (x || hasB a c) a c = a'
    generalize leftL (y || hasB b c) b c = b'
    generalize (x || hasB a c) = x'
    generalize (y || hasB b c) = y'
    refine wthS_length _ _ _ _ _ _ _ _ (by rw [Nat.pow_succ]; omega) ?_
    simp only [kidsC, kids, List.flatMap_cons, List.flatMap_nil, List.length_append, List.length_nil]
    have h1 := fun d => ih a' b' d x' y'
    have e1 := h1 (c.1 + 1, 2 * c.2.1, 2 * c.2.2)
    have e2 := h1 (c.1 + 1, 2 * c.2.1, 2 * c.2.2 + 1)
    have e3 := h1 (c.1 + 1, 2 * c.2.1 + 1, 2 * c.2.2)
    have e4 := h1 (c.1 + 1, 2 * c.2.1 + 1, 2 * c.2.2 + 1)
    rw [Nat.pow_succ]
    omega
end Go.Proofs.YtifdgdgfmjfbdaaGreat
