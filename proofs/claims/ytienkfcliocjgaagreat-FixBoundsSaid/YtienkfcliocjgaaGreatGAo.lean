/- The walk of fix.bounds, any boxes. -/
import Derived.BigRegion
import Derived.Test.YtienkfcliocjgaaGreatGHk
import Derived.Test.YtienkfcliocjgaaGreatGGj
import Derived.Test.YtienkfcliocjgaaGreatGJh
import Derived.Test.YtienkfcliocjgaaGreatGGl
set_option linter.unusedVariables false
set_option linter.unusedSimpArgs false
/- The greatest gap between arcs of cells leaves the reference's least longitudes around them (plain). -/
namespace Go.Proofs.YtienkfcliocjgaaGreat
open Go.RowKit
/-- arcs of cells -/
def OkC (D : List Sp) : Prop := ∀ x ∈ D, -10800000 ≤ x.1 ∧ x.1 < 10800000 ∧ x.1 ≤ x.2 ∧ x.2 ≤ 10800000
theorem gs_mem {D : List Sp} {k : Nat} (hk : k < D.length) : gs D k ∈ D := by simp [gs, hk]
theorem mem_gs {D : List Sp} {x : Sp} (hx : x ∈ D) : ∃ k, k < D.length ∧ gs D k = x := by
  obtain ⟨k, hk, e⟩ := List.getElem_of_mem hx
  exact ⟨k, hk, by simp [gs, hk, e]⟩
/-- the width from a beginning is at most a number if each arc's end is -/
theorem wdt_le (D : List Sp) (x m : Int) (k : Nat) (hk : k ≤ D.length) : wdt D x k ≤ m ↔ 0 ≤ m ∧ ∀ i, i < k → ((gs D i).1 - x) % 21600000 + (gs D i).2 - (gs D i).1 ≤ m := by
  induction k with
  | zero => simp [wdt]
  | succ k ih =>
    have e : wdt D x (k + 1) = max (wdt D x k) (((gs D k).1 - x) % 21600000 + (gs D k).2 - (gs D k).1) := by
      unfold wdt
      rw [List.take_succ_eq_append_getElem (by omega), List.foldl_append]
      simp [gs, show k < D.length by omega]
    rw [e, Int.max_le, ih (by omega)]
    constructor
    · rintro ⟨⟨h0, h1⟩, h2⟩
      refine ⟨h0, fun i hi => ?_⟩
      by_cases h : i = k
      · rw [h]; exact h2
      · exact h1 i (by omega)
    · rintro ⟨h0, h1⟩
      exact ⟨⟨h0, fun i hi => h1 i (by omega)⟩, h1 k (by omega)⟩
theorem wdt_all (D : List Sp) (x m : Int) : wdt D x D.length ≤ m ↔ 0 ≤ m ∧ ∀ a ∈ D, (a.1 - x) % 21600000 + a.2 - a.1 ≤ m := by
  rw [wdt_le D x m D.length (Nat.le_refl _)]
  constructor
  · rintro ⟨h0, h1⟩
    refine ⟨h0, fun a ha => ?_⟩
    obtain ⟨k, hk, rfl⟩ := mem_gs ha
    exact h1 k hk
  · rintro ⟨h0, h1⟩
    exact ⟨h0, fun i hi => h1 _ (gs_mem hi)⟩
theorem wdt_perm {D D' : List Sp} (h : D'.Perm D) (x : Int) : wdt D' x D'.length = wdt D x D.length := by
  refine Int.le_antisymm ((wdt_all D' x _).2 ?_) ((wdt_all D x _).2 ?_)
  · have := (wdt_all D x _).1 (Int.le_refl _)
    exact ⟨this.1, fun a ha => this.2 a (h.mem_iff.1 ha)⟩
  · have := (wdt_all D' x _).1 (Int.le_refl _)
    exact ⟨this.1, fun a ha => this.2 a (h.mem_iff.2 ha)⟩
/-- the best arc among some beginnings -/
def Bst (P : Int → Prop) (W : Int → Int) (s : Sp) : Prop :=
  ((∀ x, P x → 21600000 ≤ W x) ∧ s = (-10800000, 10800000)) ∨ (P s.1 ∧ s.2 = s.1 + W s.1 ∧ W s.1 < 21600000 ∧ ∀ y, P y → W s.1 < W y ∨ (W s.1 = W y ∧ s.1 ≤ y))
theorem bst_one {P : Int → Prop} {W : Int → Int} {s t : Sp} (hs : Bst P W s) (ht : Bst P W t) : s = t := by
  rcases hs with ⟨h1, h2⟩ | ⟨h1, h2, h3, h4⟩ <;> rcases ht with ⟨k1, k2⟩ | ⟨k1, k2, k3, k4⟩
  · rw [h2, k2]
  · have := h1 _ k1; omega
  · have := k1 _ h1; omega
  · have a := h4 _ k1
    have b := k4 _ h1
    have e : s.1 = t.1 := by omega
    refine Prod.ext e ?_
    rw [h2, k2, e]
theorem bst_iff {P Q : Int → Prop} {W : Int → Int} {s : Sp} (h : ∀ x, P x ↔ Q x) (hs : Bst P W s) : Bst Q W s := by
  have e : P = Q := funext fun x => propext (h x)
  rw [← e]; exact hs
theorem sgA_in {n : Int} (h0 : -10800000 ≤ n) (h1 : n < 10800000) : sgA n = n := by
  unfold sgA
  by_cases h : 0 ≤ n
  · rw [show n % 21600000 = n by omega, if_neg (by omega)]
  · rw [show n % 21600000 = n + 21600000 by omega, if_pos (by omega)]; omega
/-- beginnings of the first arcs -/
def Beg (D : List Sp) (k : Nat) (x : Int) : Prop := ∃ i, i < k ∧ (gs D i).1 = x
theorem rarn_bst {D : List Sp} (hD : OkC D) (k : Nat) (hk : k ≤ D.length) : Bst (Beg D k) (fun x => wdt D x D.length) (foldR D k) := by
  induction k with
  | zero => exact .inl ⟨fun x ⟨i, hi, _⟩ => absurd hi (Nat.not_lt_zero _), by simp [foldR]⟩
  | succ k ih =>
    replace ih := ih (by omega)
    have hg := hD _ (gs_mem (show k < D.length by omega))
    rw [foldR_succ D k (by omega)]
    unfold stepR
    rw [sgA_in hg.1 hg.2.1]
    generalize foldR D k = s at *
    generalize hx : (gs D k).1 = x at *
    have hB : ∀ y, Beg D (k + 1) y ↔ Beg D k y ∨ y = x := by
      intro y
      constructor
      · rintro ⟨i, hi, e⟩
        by_cases h : i = k
        · subst h; exact .inr (by rw [← e, hx])
        · exact .inl ⟨i, by omega, e⟩
      · rintro (⟨i, hi, e⟩ | e)
        · exact ⟨i, by omega, e⟩
        · exact ⟨k, by omega, by rw [hx, e]⟩
    simp only [Bst, hB] at ih ⊢
    generalize hW : (fun x => wdt D x D.length) = W at *
    have hWx : wdt D x D.length = W x := by rw [← hW]
    have hWs : wdt D s.1 D.length = W s.1 := by rw [← hW]
    have hWy : ∀ y, wdt D y D.length = W y := by intro y; rw [← hW]
    simp only [hWy] at ih ⊢
    by_cases hc : W x < s.2 - s.1 ∨ (W x = s.2 - s.1 ∧ W x < 21600000 ∧ x < s.1)
    · rw [if_pos hc]
      right
      simp only []
      rcases ih with ⟨h1, h2⟩ | ⟨h1, h2, h3, h4⟩
      · have e1 : s.1 = -10800000 := by rw [h2]
        have e2 : s.2 = 10800000 := by rw [h2]
        refine ⟨.inr trivial, trivial, by omega, ?_⟩
        rintro y (hy | rfl)
        · have := h1 y hy; omega
        · omega
      · refine ⟨.inr trivial, trivial, by omega, ?_⟩
        rintro y (hy | rfl)
        · have := h4 y hy; omega
        · omega
    · rw [if_neg hc]
      rcases ih with ⟨h1, h2⟩ | ⟨h1, h2, h3, h4⟩
      · have e1 : s.1 = -10800000 := by rw [h2]
        have e2 : s.2 = 10800000 := by rw [h2]
        refine .inl ⟨?_, h2⟩
        rintro y (hy | rfl)
        · exact h1 y hy
        · omega
      · refine .inr ⟨.inl h1, h2, h3, ?_⟩
        rintro y (hy | rfl)
        · exact h4 y hy
        · omega
theorem fR_le (D : List Sp) (m : Int) (k : Nat) (hk : k ≤ D.length) : fR D k ≤ m ↔ (gs D 0).2 ≤ m ∧ ∀ i, i < k → (gs D i).2 ≤ m := by
  induction k with
  | zero => simp [fR]
  | succ k ih =>
    rw [fR_succ D k (by omega), Int.max_le, ih (by omega)]
    constructor
    · rintro ⟨⟨a, b⟩, c⟩
      refine ⟨a, fun i hi => ?_⟩
      by_cases h : i = k
      · rw [h]; exact c
      · exact b i (by omega)
    · rintro ⟨a, b⟩
      exact ⟨⟨a, fun i hi => b i (by omega)⟩, b k (by omega)⟩
/-- how far the arcs have reached -/
theorem fS_le (D : List Sp) (h0 : 0 < D.length) (m : Int) (k : Nat) (hk : k ≤ D.length) : (fS D k).2.2 ≤ m ↔ (∀ i, i < D.length → (gs D i).2 - 21600000 ≤ m) ∧ ∀ i, i < k → (gs D i).2 ≤ m := by
  induction k with
  | zero =>
    have h : (fS D 0).2.2 = fR D D.length - 21600000 := by simp [fS]
    rw [h]
    have := fR_le D (m + 21600000) D.length (Nat.le_refl _)
    constructor
    · intro hm
      have := this.1 (by omega)
      exact ⟨fun i hi => by have := this.2 i hi; omega, fun i hi => absurd hi (Nat.not_lt_zero _)⟩
    · rintro ⟨a, -⟩
      have := this.2 ⟨by have := a 0 h0; omega, fun i hi => by have := a i hi; omega⟩
      omega
  | succ k ih =>
    have e : (fS D (k + 1)).2.2 = max (fS D k).2.2 (gs D k).2 := by
      rw [fS_succ D k (by omega)]
      unfold fS1
      split <;> rfl
    rw [e, Int.max_le, ih (by omega)]
    constructor
    · rintro ⟨⟨a, b⟩, c⟩
      refine ⟨a, fun i hi => ?_⟩
      by_cases h : i = k
      · rw [h]; exact c
      · exact b i (by omega)
    · rintro ⟨a, b⟩
      exact ⟨⟨a, fun i hi => b i (by omega)⟩, b k (by omega)⟩
/-- at the first of equal beginnings the gap is a turn less the width -/
theorem gap_first {D : List Sp} (hD : OkC D) (hS : ∀ i j, i < j → j < D.length → (gs D i).1 ≤ (gs D j).1) (k : Nat) (hk : k < D.length) (hf : ∀ i, i < k → (gs D i).1 ≠ (gs D k).1) :
    wdt D (gs D k).1 D.length = 21600000 - ((gs D k).1 - (fS D k).2.2) := by
  have hlt : ∀ i, i < k → (gs D i).1 < (gs D k).1 := fun i hi => by have := hS i k hi hk; have := hf i hi; omega
  have hd := fun i (hi : i < D.length) => hD _ (gs_mem hi)
  generalize hx : (gs D k).1 = x at *
  have h0 : 0 < D.length := by omega
  refine Int.le_antisymm ?_ ?_
  · refine (wdt_le D x _ D.length (Nat.le_refl _)).2 ?_
    have hr := (fS_le D h0 (fS D k).2.2 k (by omega)).1 (Int.le_refl _)
    have hk2 := hd k hk
    have hk3 := hr.1 k hk
    refine ⟨by omega, fun i hi => ?_⟩
    have hi2 := hd i hi
    by_cases h : i < k
    · have := hlt i h
      have := hr.2 i h
      rw [show ((gs D i).1 - x) % 21600000 = (gs D i).1 - x + 21600000 by omega]
      omega
    · have hge : x ≤ (gs D i).1 := by
        by_cases e : i = k
        · rw [e, hx]; exact Int.le_refl _
        · have := hS k i (by omega) hi; omega
      have := hr.1 i hi
      rw [show ((gs D i).1 - x) % 21600000 = (gs D i).1 - x by omega]
      omega
  · have hw := (wdt_le D x (wdt D x D.length) D.length (Nat.le_refl _)).1 (Int.le_refl _)
    generalize wdt D x D.length = w at *
    have : (fS D k).2.2 ≤ w + x - 21600000 := by
      refine (fS_le D h0 _ k (by omega)).2 ⟨fun i hi => ?_, fun i hi => ?_⟩
      · have h1 := hw.2 i hi
        have hi2 := hd i hi
        have hk2 := hd k hk
        by_cases h : (gs D i).1 < x
        · rw [show ((gs D i).1 - x) % 21600000 = (gs D i).1 - x + 21600000 by omega] at h1
          omega
        · rw [show ((gs D i).1 - x) % 21600000 = (gs D i).1 - x by omega] at h1
          omega
      · have h1 := hw.2 i (by omega)
        have := hlt i hi
        have hi2 := hd i (by omega)
        have hk2 := hd k hk
        rw [show ((gs D i).1 - x) % 21600000 = (gs D i).1 - x + 21600000 by omega] at h1
        omega
    omega
theorem gap_later {D : List Sp} (hD : OkC D) (k i : Nat) (hk : k < D.length) (hi : i < k) (he : (gs D i).1 = (gs D k).1) : (gs D k).1 - (fS D k).2.2 ≤ 0 := by
  have := ((fS_le D (by omega) (fS D k).2.2 k (by omega)).1 (Int.le_refl _)).2 i hi
  have := hD _ (gs_mem (show i < D.length by omega))
  omega
theorem fS_bst {D : List Sp} (hD : OkC D) (hS : ∀ i j, i < j → j < D.length → (gs D i).1 ≤ (gs D j).1) (k : Nat) (hk : k ≤ D.length) :
    Bst (Beg D k) (fun x => wdt D x D.length) (fS D k).1 ∧ (fS D k).2.1 = 21600000 - ((fS D k).1.2 - (fS D k).1.1) ∧ 0 ≤ (fS D k).2.1 := by
  induction k with
  | zero => exact ⟨.inl ⟨fun x ⟨i, hi, _⟩ => absurd hi (Nat.not_lt_zero _), by simp [fS]⟩, by simp [fS], by simp [fS]⟩
  | succ k ih =>
    replace ih := ih (by omega)
    obtain ⟨ih, hb, hp⟩ := ih
    have hsort : ∀ y, Beg D k y → y ≤ (gs D k).1 := fun y ⟨i, hi, e⟩ => by rw [← e]; exact hS i k hi (by omega)
    have key : (∃ i, i < k ∧ (gs D i).1 = (gs D k).1) ∨ wdt D (gs D k).1 D.length = 21600000 - ((gs D k).1 - (fS D k).2.2) := by
      by_cases h : ∃ i, i < k ∧ (gs D i).1 = (gs D k).1
      · exact .inl h
      · exact .inr (gap_first hD hS k (by omega) (fun i hi e => h ⟨i, hi, e⟩))
    have later := fun i hi he => gap_later hD k i (by omega) hi he
    rw [fS_succ D k (by omega)]
    unfold fS1
    obtain ⟨⟨s, b, r⟩, hs⟩ : ∃ t, t = fS D k := ⟨_, rfl⟩
    rw [← hs] at ih hb hp key later ⊢
    simp only [] at ih hb hp key later ⊢
    generalize hx : (gs D k).1 = x at *
    have hB : ∀ y, Beg D (k + 1) y ↔ Beg D k y ∨ y = x := by
      intro y
      constructor
      · rintro ⟨i, hi, e⟩
        by_cases h : i = k
        · subst h; exact .inr (by rw [← e, hx])
        · exact .inl ⟨i, by omega, e⟩
      · rintro (⟨i, hi, e⟩ | e)
        · exact ⟨i, by omega, e⟩
        · exact ⟨k, by omega, by rw [hx, e]⟩
    rcases key with ⟨i, hi, he⟩ | key
    · have := later i hi he
      rw [if_neg (by omega)]
      simp only []
      refine ⟨bst_iff (fun y => ?_) ih, hb, hp⟩
      rw [hB]
      exact ⟨.inl, fun h => h.elim id (fun h => ⟨i, hi, by rw [h]; exact he⟩)⟩
    · simp only [Bst, hB] at ih ⊢
      generalize hW : (fun x => wdt D x D.length) = W at *
      have hWy : ∀ y, wdt D y D.length = W y := by intro y; rw [← hW]
      simp only [hWy] at ih key ⊢
      by_cases hc : b < x - r
      · rw [if_pos hc]
        simp only []
        refine ⟨.inr ?_, by omega, by omega⟩
        rcases ih with ⟨h1, h2⟩ | ⟨h1, h2, h3, h4⟩
        · refine ⟨.inr trivial, by omega, by omega, ?_⟩
          rintro y (hy | rfl)
          · have := h1 y hy; omega
          · omega
        · refine ⟨.inr trivial, by omega, by omega, ?_⟩
          rintro y (hy | rfl)
          · have := h4 y hy; omega
          · omega
      · rw [if_neg hc]
        simp only []
        refine ⟨?_, hb, hp⟩
        rcases ih with ⟨h1, h2⟩ | ⟨h1, h2, h3, h4⟩
        · have e1 : s.1 = -10800000 := by rw [h2]
          have e2 : s.2 = 10800000 := by rw [h2]
          refine .inl ⟨?_, h2⟩
          rintro y (hy | rfl)
          · exact h1 y hy
          · omega
        · refine .inr ⟨.inl h1, h2, h3, ?_⟩
          rintro y (hy | rfl)
          · exact h4 y hy
          · have := hsort _ h1
            omega
/-- what the greatest gap leaves is the reference's best arc -/
theorem fS_rarn {D D' : List Sp} (hD : OkC D) (hp : D'.Perm D) (hS : ∀ i j, i < j → j < D'.length → (gs D' i).1 ≤ (gs D' j).1) : (fS D' D'.length).1 = rarn D := by
  have hD' : OkC D' := fun x hx => hD x (hp.mem_iff.1 hx)
  have h1 := (fS_bst hD' hS D'.length (Nat.le_refl _)).1
  have h2 := rarn_bst hD D.length (Nat.le_refl _)
  have e : (fun x => wdt D' x D'.length) = (fun x => wdt D x D.length) := funext fun x => wdt_perm hp x
  rw [e] at h1
  refine bst_one (bst_iff (fun x => ?_) h1) h2
  constructor
  · rintro ⟨i, hi, e⟩
    obtain ⟨j, hj, e'⟩ := mem_gs (hp.mem_iff.1 (gs_mem hi))
    exact ⟨j, hj, by rw [e', e]⟩
  · rintro ⟨i, hi, e⟩
    obtain ⟨j, hj, e'⟩ := mem_gs (hp.mem_iff.2 (gs_mem hi))
    exact ⟨j, hj, by rw [e', e]⟩
/-- the longitudes of boxes -/
def lons (D : List Bx) : List Sp := D.map fun q => q.2.2
theorem okC_bx {L : List Cl} (hv : ∀ x ∈ L, Vl x) : OkC (lons (L.map bxI)) := by
  intro a ha
  simp only [lons, List.mem_map] at ha
  obtain ⟨q, ⟨x, hx, rfl⟩, rfl⟩ := ha
  obtain ⟨h1, h2, h3, h4, h5, h6, h7, h8⟩ := box_nums (hv x hx)
  simp only [bxI]
  omega
theorem okA_of {D : List Sp} (h : OkC D) : OkA D := fun x hx => by have := h x hx; omega
theorem okR_of {D : List Sp} (h : OkC D) : OkR D := fun x hx => by have := h x hx; omega
end Go.Proofs.YtienkfcliocjgaaGreat
namespace Go.Proofs.YtienkfcliocjgaaGreat
open Go.RowKit
/-- the hull of the first boxes' latitudes -/
def latF (D : List Bx) (k : Nat) : Int × Int := (D.take k).foldl (fun s q => (min s.1 q.1, max s.2 q.2.1)) ((gb D 0).1, (gb D 0).2.1)
theorem latF_succ (D : List Bx) (k : Nat) (hk : k < D.length) : latF D (k + 1) = (min (latF D k).1 (gb D k).1, max (latF D k).2 (gb D k).2.1) := by
  unfold latF
  rw [List.take_succ_eq_append_getElem hk, List.foldl_append]
  simp [gb, hk]
theorem latF_zero (D : List Bx) : latF D 0 = ((gb D 0).1, (gb D 0).2.1) := by simp [latF]
theorem lons_take (D : List Bx) (k : Nat) (hk : k < D.length) : spvs ((lons D).take (k + 1)) = spvs ((lons D).take k) ++ [.int .i64 (gb D k).2.2.1, .int .i64 (gb D k).2.2.2] := by
  have hk' : k < (lons D).length := by simpa [lons] using hk
  rw [List.take_succ_eq_append_getElem hk']
  simp [spvs, spv, lons, gb, hk]
set_option maxHeartbeats 4000000 in
set_option maxRecDepth 100000 in
/-- the bounds of boxes -/
theorem fbounds_any (A : Option Addr) (n c : Nat) (D : List Bx) (w : World) (hr : Reads w w.heap.size 4 A n (bvs D)) (h0 : 0 < n) (hn : n ≤ 4000) (hC : OkC (lons D)) :
    Calls Tryz.prog 14 #[.slice A n c] w fun e w' => e = .returned (.agg #[.int .i64 (latF D n).1, .int .i64 (latF D n).2, .int .i64 (rarn (lons D)).1, .int .i64 (rarn (lons D)).2]) ∧ Below w.heap.size w w' := by
  have hl : D.length = n := by have := hr.1; rw [bvs_length] at this; omega
  have HL := Lib.hid hl
  have HC := Lib.hid hC
  obtain ⟨b, off, rfl, hb, x0, x1, x2, x3⟩ := BReads.elem hr h0
  have X : Hid (∀ W, Below w.heap.size w W → ∀ k, k < n → W.cell? ⟨b, off + k * 4, none⟩ = some (.int .i64 (gb D k).1) ∧ W.cell? ⟨b, off + k * 4 + 1, none⟩ = some (.int .i64 (gb D k).2.1) ∧ W.cell? ⟨b, off + k * 4 + 2, none⟩ = some (.int .i64 (gb D k).2.2.1) ∧ W.cell? ⟨b, off + k * 4 + 3, none⟩ = some (.int .i64 (gb D k).2.2.2)) := Lib.hid (fun W hW k hk => by
    obtain ⟨b', off', e, hb', y0, y1, y2, y3⟩ := BReads.elem hr hk
    cases e
    exact ⟨(hW.cell (p := ⟨b, off + k * 4, none⟩) hb).trans y0, (hW.cell (p := ⟨b, off + k * 4 + 1, none⟩) hb).trans y1, (hW.cell (p := ⟨b, off + k * 4 + 2, none⟩) hb).trans y2, (hW.cell (p := ⟨b, off + k * 4 + 3, none⟩) hb).trans y3⟩)
  have z0 := latF_zero D
  obtain ⟨⟨l0, l1⟩, hl0⟩ : ∃ s, s = latF D 0 := ⟨_, rfl⟩
  rw [← hl0] at z0
  obtain ⟨z0, z1⟩ := Prod.mk.inj z0
  have HL0 := Lib.hid hl0
  clear hl0
  have y0 := (X.out _ (Below.refl _ _) 0 h0).1
  have y1 := (X.out _ (Below.refl _ _) 0 h0).2.1
  simp only [Nat.zero_mul, Nat.add_zero] at y0 y1
  rw [← z0] at y0
  rw [← z1] at y1
  clear x0 x1 x2 x3 z0 z1 hr hC hl
  obtain ⟨iA, hiA, hzA, hz1A, hzbA⟩ : ∃ i0, Tryz.prog.info? 27 = some i0 ∧ i0.zero = some (.agg #[.int .i64 0, .int .i64 0]) ∧ i0.size = 2 ∧ i0.bytes = 16 := by
    have h : (Tryz.prog.info? 27).map (fun i => (i.zero, i.size, i.bytes)) = some (some (.agg #[.int .i64 0, .int .i64 0]), 2, 16) := by kernel_rfl
    obtain ⟨i0, a, b, c, d⟩ := info_parts h
    exact ⟨i0, a, b, c, d⟩
  have Z0 := Lib.hid ((K4.new w 0 0 0 0 29).alloc (.cells #[.int .i64 l0, .int .i64 l1, .int .i64 0, .int .i64 0] 29))
  have p0 := K4.new (w.alloc (.cells #[.int .i64 0, .int .i64 0, .int .i64 0, .int .i64 0] 29)) l0 l1 0 0 29
  rw [World.size_alloc] at p0
  have P0 := Lib.hid p0
  clear p0
  have B0 := Lib.hid ((bl_alloc w (.cells #[.int .i64 0, .int .i64 0, .int .i64 0, .int .i64 0] 29)).alloc (by simp) (.cells #[.int .i64 l0, .int .i64 l1, .int .i64 0, .int .i64 0] 29))
  go_enter Tryz.func14, Tryz.ntmps14
  go_wp2
  clear y0 y1
  go_loopw [4, 14] (fun s4 i wr => ∃ k : Nat, k ≤ n ∧ i = .int .i64 k ∧ wr.ownsRow (w.heap.size + 2) 27 2 s4 k (spvs ((lons D).take k)) ∧ K4 wr w.heap.size 0 0 0 0 ∧ K4 wr (w.heap.size + 1) (latF D k).1 (latF D k).2 0 0 ∧ Below w.heap.size w wr) (fun _ i _ => n - (intOf i).toNat)
  case atStart => exact ⟨0, Nat.zero_le _, rfl, own_nil _ _ _ _, Z0.out, by rw [← HL0.out]; exact P0.out, B0.out⟩
  case round =>
    obtain ⟨k, hk, rfl, hown, hZ, hP, hbl⟩ := hrel
    clear Z0 P0 B0
    have HOW := Lib.hid hown
    have HZ := Lib.hid hZ
    have HP := Lib.hid hP
    have HB := Lib.hid hbl
    clear hown hZ hP hbl
    by_cases hlt : k < n
    · obtain ⟨y0, y1, y2, y3⟩ := X.out wr HB.out k hlt
      have hLS := Lib.hid (latF_succ D k (by rw [HL.out]; exact hlt))
      have hTK := Lib.hid (lons_take D k (by rw [HL.out]; exact hlt))
      generalize gb D k = q at *
      generalize latF D k = s at *
      obtain ⟨q0, q1, q2, q3⟩ := q
      obtain ⟨s0, s1⟩ := s
      simp only [] at y0 y1 y2 y3 hLS hTK HP
      have PW := Lib.hid (HP.out.alloc (.cells #[.int .i64 q0, .int .i64 q1, .int .i64 q2, .int .i64 q3] 29))
      have ZW := Lib.hid (HZ.out.alloc (.cells #[.int .i64 q0, .int .i64 q1, .int .i64 q2, .int .i64 q3] 29))
      have OW := Lib.hid (HOW.out.alloc (.cells #[.int .i64 q0, .int .i64 q1, .int .i64 q2, .int .i64 q3] 29))
      have hzw := HB.out.size
      have BW := Lib.hid (HB.out.alloc hzw (.cells #[.int .i64 q0, .int .i64 q1, .int .i64 q2, .int .i64 q3] 29))
      have NW := Lib.hid (K4.new wr q0 q1 q2 q3 29)
      have hlp := HP.out.lt
      go_upto_region 6 with (fail)
      clear y0 y1 y2 y3
      obtain ⟨WA, hWA⟩ : ∃ WA, wr.alloc (.cells #[.int .i64 q0, .int .i64 q1, .int .i64 q2, .int .i64 q3] 29) = WA := ⟨_, rfl⟩
      rw [hWA] at PW ZW OW BW NW ⊢
      have hzA : WA.heap.size = wr.heap.size + 1 := by rw [← hWA]; simp
      clear hWA HOW HZ HP HB
      have HZA := Lib.hid hzA
      generalize wr.heap.size = ga at *
      clear hzA
      have hn1 : ¬ ga = w.heap.size + 1 := by omega
      have hn2 : ¬ w.heap.size + 1 = ga := by omega
      obtain ⟨pt2, p0, p1, p2, p3, pf0, pf1, -, -⟩ := PW.out
      obtain ⟨nt2, a0, a1, a2, a3, -, -, -, -⟩ := NW.out
      go_region
      clear p0 p1 p2 p3 pf0 pf1 a0 a1 a2 a3 pt2 nt2
      have PX := Lib.hid ((PW.out.two (min s0 q0) (max s1 q1)).below (bl_drew (Below.refl _ _)) (by simpa using PW.out.lt))
      have ZX := Lib.hid (((ZW.out.farB (p := ⟨w.heap.size + 1, 0, none⟩) (by simp only []; omega) (.int .i64 (min s0 q0))).farB (p := ⟨w.heap.size + 1, 1, none⟩) (by simp only []; omega) (.int .i64 (max s1 q1))).below (bl_drew (Below.refl _ _)) (by simpa using ZW.out.lt))
      have NX := Lib.hid (((NW.out.farB (p := ⟨w.heap.size + 1, 0, none⟩) hn1 (.int .i64 (min s0 q0))).farB (p := ⟨w.heap.size + 1, 1, none⟩) hn1 (.int .i64 (max s1 q1))).below (bl_drew (Below.refl _ _)) (by simpa using NW.out.lt))
      have BX := Lib.hid (bl_drew ((BW.out.setCell (p := ⟨w.heap.size + 1, 0, none⟩) (by simp) (.int .i64 (min s0 q0))).setCell (p := ⟨w.heap.size + 1, 1, none⟩) (by simp) (.int .i64 (max s1 q1))))
      have hzX : (((WA.setCell ⟨w.heap.size + 1, 0, none⟩ (.int .i64 (min s0 q0))).setCell ⟨w.heap.size + 1, 1, none⟩ (.int .i64 (max s1 q1))).drew).heap.size = ga + 1 := by simp; exact HZA.out
      have HZX := Lib.hid hzX
      have OX := Lib.hid (own_grown' OW.out (grown_bl (grown_set2 (o := 1) (v := .int .i64 (max s1 q1)) (grown_set2 (o := 0) (v := .int .i64 (min s0 q0)) (World.grownBy.refl WA (some (w.heap.size + 1))))) (bl_drew (Below.refl WA.heap.size _)) (Nat.le_refl _)) (fun q hq e => by have := own_base OW.out q hq; cases e; omega))
      clear hzX HZA PW ZW NW BW OW
      generalize ((WA.setCell ⟨w.heap.size + 1, 0, none⟩ (.int .i64 (min s0 q0))).setCell ⟨w.heap.size + 1, 1, none⟩ (.int .i64 (max s1 q1))).drew = WX at *
      obtain ⟨nt2, a0, a1, a2, a3, -, -, -, -⟩ := NX.out
      go_wp2_with (at_builtin; first
        | (refine wpList_append_any _ rfl (.tmp 36) (.tmp 39) _ rfl (w.heap.size + 2) 27 iA _ 2 16 Tryz.underlying56 hiA hzA hz1A hzbA rfl (by decide) _ k (spvs ((lons D).take k)) rfl (OX.out.alloc _) (WX.heap.size + 1) (some ⟨WX.heap.size, 0, none⟩) 1 1 [.int .i64 q2, .int .i64 q3] rfl ⟨rfl, fun _ => ⟨_, rfl, by simp, arc_cells WX (q2, q3) _⟩⟩ (by simp [Value.oneCell']) (by simp only [maxLen]; omega) (by omega) (by have := HZX.out; simp; omega) ?_; intro v7 w7 hown7 hg7 hat7)
        | fail)
      have hzz := HZX.out
      have b7 := ((bl_alloc WX (.cells #[.int .i64 q2, .int .i64 q3] 27)).mono (show w.heap.size + 2 ≤ WX.heap.size by omega)).grown hg7 (by simp; omega) (own_base OX.out)
      go_roundw
      case rel => exact ⟨k + 1, by omega, by go_num, by rw [hTK.out]; exact hown7, ZX.out.below b7 (by omega), by rw [hLS.out]; exact PX.out.below b7 (by omega), BX.out.trans (b7.mono (by omega))⟩
      case measure => simp [intOf]; omega
    · obtain rfl : k = n := by omega
      have hll : (lons D).length = k := by rw [show (lons D).length = D.length from List.length_map _, HL.out]
      rw [List.take_of_length_le (by omega)] at HOW
      obtain ⟨g, cap, hv, hg, hgl⟩ := own_some HOW.out h0
      subst hv
      have HS : Hid (∀ j, j < (lons D).length → wr.cell? ⟨g, 0 + j * 2, none⟩ = some (.int .i64 (gs (lons D) j).1) ∧ wr.cell? ⟨g, 0 + j * 2 + 1, none⟩ = some (.int .i64 (gs (lons D) j).2)) := Lib.hid (fun j hj => by
        have hr := Reads.of_own HOW.out
        obtain ⟨b', off', e, -, z0, z1⟩ := SReads.elem (D := lons D) hr (k := j) (by omega)
        cases e
        exact ⟨z0, z1⟩)
      have KA := Lib.hid ((fAround_any g 0 k cap (lons D) wr hgl HS.out hll (by omega) h0 (okA_of HC.out)).mono (R' := fun e w' => e = .returned (.agg #[.int .i64 (rarn (lons D)).1, .int .i64 (rarn (lons D)).2]) ∧ Below wr.heap.size wr w') fun e w' ⟨D', hp, hso, he, hb⟩ => by
        have := fS_rarn HC.out hp hso
        rw [hp.length_eq, hll] at this
        rw [this] at he
        exact ⟨he, hb⟩)
      obtain ⟨⟨r0, r1⟩, hr⟩ : ∃ r, rarn (lons D) = r := ⟨_, rfl⟩
      obtain ⟨⟨s0, s1⟩, hs⟩ : ∃ s, latF D k = s := ⟨_, rfl⟩
      rw [hr] at KA
      rw [hs] at HP
      simp only [] at KA HP
      have HRS := Lib.hid (And.intro hr hs)
      clear hr hs
      clear HS
      go_wp2_with fail
      (with_reducible refine KA.out.mono ?_)
      rintro e w4 ⟨rfl, hb4⟩
      have P4 := Lib.hid (HP.out.below hb4 HP.out.lt)
      have Z4 := Lib.hid (HZ.out.below hb4 HZ.out.lt)
      have B4 := Lib.hid (HB.out.trans (hb4.mono HB.out.size))
      clear KA HP HZ HB HOW hb4
      obtain ⟨pt, p0, p1, p2, p3, pf0, pf1, pf2, pf3⟩ := P4.out
      have hn1 : ¬ w.heap.size = w.heap.size + 1 := by omega
      have hn2 : ¬ w.heap.size + 1 = w.heap.size := by omega
      obtain ⟨zt, z0, z1, z2, z3, zf0, zf1, zf2, zf3⟩ := Z4.out
      go_wp2
      refine bodyPost_ret (v := .agg #[.int .i64 s0, .int .i64 s1, .int .i64 r0, .int .i64 r1]) (by simp [results, Tryz.results14, go_sem, *]; done) rfl ⟨by rw [HRS.out.1, HRS.out.2], ?_⟩
      exact bl_put4 ((B4.out.setCell (by simp) _).setCell (by simp) _) (Nat.le_refl _)
end Go.Proofs.YtienkfcliocjgaaGreat
