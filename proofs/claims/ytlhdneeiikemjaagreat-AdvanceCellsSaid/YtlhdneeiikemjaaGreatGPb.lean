/- slices.Compact at int. -/
import Derived.Lib.SliceRun
import Derived.BigQuiet
import Derived.Test.YtlhdneeiikemjaaGreatGAwake
import Derived.Test.YtlhdneeiikemjaaGreatGJd
set_option linter.unusedVariables false
set_option linter.unusedSimpArgs false
/- Walks of place.Valid, place.Contains at boxes of cells, and of cells.Contains. -/
namespace Go.Proofs.YtlhdneeiikemjaaGreat
open Go.RowKit
theorem validLat_yes (x y : Int) (w : World) (h1 : x ≤ y) (h2 : -5400000 ≤ x) (h3 : y ≤ 5400000) : Calls Tryz.prog 142 #[.agg #[.int .i64 x, .int .i64 y]] w fun e w' => e = .returned (.bool true) ∧ Below w.heap.size w w' := by
  have d3 : decide (y ≤ 5400000) = true := decide_eq_true h3
  go_enter Tryz.func142, Tryz.ntmps142
  go_wp2
  all_goals
    go_ret
    refine ⟨ret_bool (by first | rfl | (simp_all; done) | (simp_all; omega)), ?_⟩
    repeat (first | exact Below.refl _ _ | assumption | refine bl_drew ?_ | refine bl_drewN ?_ _ | refine Below.setCell ?_ (by first | assumption | omega | (simp; done) | (simp; omega)) _ | refine Below.alloc ?_ (by first | assumption | omega | (simp; done) | (simp; omega)) _)
set_option maxHeartbeats 400000 in
theorem validLon_yes (x y : Int) (w : World) (h1 : x ≤ y) (h2 : -10800000 ≤ x) (h3 : x < 10800000) (h4 : y - x < 21600000) : Calls Tryz.prog 143 #[.agg #[.int .i64 x, .int .i64 y]] w fun e w' => e = .returned (.bool true) ∧ Below w.heap.size w w' := by
  have ha : aeq x y (-10800000) 10800000 = false := by simp [aeq]; omega
  have K := Lib.hid (fun W => all_any x y W)
  rw [ha] at K
  have sy : IntKind.i64.wrap (y - x) = y - x := IntWalk.i64_in _ (by omega)
  clear ha
  go_enter Tryz.func143, Tryz.ntmps143
  go_wp2_with (go_at_call 144; (with_reducible refine (K.out _).mono ?_); rintro e w1 ⟨rfl, hb⟩; have hz := one_lt hb; have hb1 := one_bl hb; have y1 := (hb.cell (p := ⟨w.heap.size, 0, none⟩) (by simp)).trans (show _ = some (.int .i64 x) by simp); have y2 := (hb.cell (p := ⟨w.heap.size, 1, none⟩) (by simp)).trans (show _ = some (.int .i64 y) by simp))
  all_goals
    go_ret
    exact ⟨ret_bool (by first | rfl | (simp_all; done) | (simp_all; omega)), hb1⟩
/-- the numbers of a box -/
structure BoxOk (b0 b1 b2 b3 : Int) : Prop where
  l1 : b0 ≤ b1
  l2 : -5400000 ≤ b0
  l3 : b1 ≤ 5400000
  o1 : b2 ≤ b3
  o2 : -10800000 ≤ b2
  o3 : b2 < 10800000
  o4 : b3 - b2 < 21600000
set_option maxHeartbeats 400000 in
theorem placeValid_yes (b0 b1 b2 b3 : Int) (w : World) (hb : BoxOk b0 b1 b2 b3) : Calls Tryz.prog 82 #[.agg #[.int .i64 b0, .int .i64 b1, .int .i64 b2, .int .i64 b3]] w fun e w' => e = .returned (.bool true) ∧ Below w.heap.size w w' := by
  have K1 := Lib.hid (fun W => validLat_yes b0 b1 W hb.l1 hb.l2 hb.l3)
  have K2 := Lib.hid (fun W => validLon_yes b2 b3 W hb.o1 hb.o2 hb.o3 hb.o4)
  clear hb
  go_enter Tryz.func82, Tryz.ntmps82
  go_wp2_with (first | (go_at_call 142; (with_reducible refine (K1.out _).mono ?_); rintro e w1 ⟨rfl, hb⟩; have hz := one_lt hb; have hb1 := one_bl hb; have y1 := (hb.cell (p := ⟨w.heap.size, 2, none⟩) (by simp)).trans (show _ = some (.int .i64 b2) by simp); have y2 := (hb.cell (p := ⟨w.heap.size, 3, none⟩) (by simp)).trans (show _ = some (.int .i64 b3) by simp)) | (go_at_call 143; (with_reducible refine (K2.out _).mono ?_); rintro e w2 ⟨rfl, hb2⟩))
  go_ret
  exact ⟨rfl, hb1.trans (hb2.mono hb1.size)⟩
/-- whether a point is in a box -/
def inBox (b0 b1 b2 b3 a b : Int) : Bool := decide (b0 ≤ a ∧ a ≤ b1) && (decide (a = 5400000) || decide (a = -5400000) || lonIn b2 b3 b)
set_option maxHeartbeats 1000000 in
theorem placeContains_any (b0 b1 b2 b3 a b : Int) (w : World) (hb : BoxOk b0 b1 b2 b3) (hp : vptB a b = true) :
    Calls Tryz.prog 37 #[.agg #[.int .i64 b0, .int .i64 b1, .int .i64 b2, .int .i64 b3], .agg #[.int .i64 a, .int .i64 b]] w fun e w' => e = .returned (.tuple #[.bool (inBox b0 b1 b2 b3 a b), .int .i64 0]) ∧ Below w.heap.size w w' := by
  have K1 := Lib.hid (fun W => placeValid_yes b0 b1 b2 b3 W hb)
  have K2 := Lib.hid (vpt_yes a b hp)
  obtain ⟨p1, p2, p3, p4⟩ := vptB_true.1 hp
  have q1 := hb.o1
  have q2 := hb.o2
  have q3 := hb.o3
  have q4 := hb.o4
  have K3 := Lib.hid (fun W => has_place b2 b3 b W (by omega) (by omega) (by omega) (by omega) q1 q4)
  clear q1 q2 q3 q4 hb hp
  obtain ⟨R, hR⟩ : ∃ R, R = inBox b0 b1 b2 b3 a b := ⟨_, rfl⟩
  rw [← hR]
  have HR := Lib.hid hR
  clear hR
  go_enter Tryz.func37, Tryz.ntmps37
  go_wp2_with fail
  (with_reducible refine (K1.out _).mono ?_)
  rintro e w1 ⟨rfl, hb1⟩
  have hb1' := two_bl hb1
  have hz1 := two_lt hb1
  have x0 := (hb1.cell (p := ⟨w.heap.size, 0, none⟩) (by simp; omega)).trans (show _ = some (.int .i64 b0) by simp)
  have x1 := (hb1.cell (p := ⟨w.heap.size, 1, none⟩) (by simp; omega)).trans (show _ = some (.int .i64 b1) by simp)
  have x2 := (hb1.cell (p := ⟨w.heap.size, 2, none⟩) (by simp; omega)).trans (show _ = some (.int .i64 b2) by simp)
  have x3 := (hb1.cell (p := ⟨w.heap.size, 3, none⟩) (by simp; omega)).trans (show _ = some (.int .i64 b3) by simp)
  have y0 := (hb1.cell (p := ⟨w.heap.size + 1, 0, none⟩) (by simp)).trans (show _ = some (.int .i64 a) by simp)
  have y1 := (hb1.cell (p := ⟨w.heap.size + 1, 1, none⟩) (by simp)).trans (show _ = some (.int .i64 b) by simp)
  clear hb1
  go_wp2_with fail
  (with_reducible refine (K2.out _).mono ?_)
  rintro e w2 ⟨rfl, hb2⟩
  have hb2' := hb1'.trans (hb2.mono hb1'.size)
  have x0 := (hb2.cell (p := ⟨w.heap.size, 0, none⟩) hz1.1).trans x0
  have x1 := (hb2.cell (p := ⟨w.heap.size, 1, none⟩) hz1.1).trans x1
  have x2 := (hb2.cell (p := ⟨w.heap.size, 2, none⟩) hz1.1).trans x2
  have x3 := (hb2.cell (p := ⟨w.heap.size, 3, none⟩) hz1.1).trans x3
  have y0 := (hb2.cell (p := ⟨w.heap.size + 1, 0, none⟩) hz1.2).trans y0
  have y1 := (hb2.cell (p := ⟨w.heap.size + 1, 1, none⟩) hz1.2).trans y1
  clear hb2 hb1' K1 K2
  by_cases h0 : a < b0
  · have hE : Hid (R = false) := Lib.hid (by rw [HR.out]; simp [inBox]; omega)
    go_wp2
    go_ret2
    exact ⟨by rw [hE.out]; rfl, hb2'⟩
  · have d0 : decide (a < b0) = false := decide_eq_false h0
    by_cases h1 : b1 < a
    · have hE : Hid (R = false) := Lib.hid (by rw [HR.out]; simp [inBox]; omega)
      go_wp2
      go_ret2
      exact ⟨by rw [hE.out]; rfl, hb2'⟩
    · have d1 : decide (b1 < a) = false := decide_eq_false h1
      have hin : decide (b0 ≤ a ∧ a ≤ b1) = true := decide_eq_true (by omega)
      by_cases h2 : a = 5400000
      · have hE : Hid (R = true) := Lib.hid (by rw [HR.out, inBox, hin]; simp [h2])
        subst h2
        clear hin
        go_wp2
        go_ret2
        exact ⟨by rw [hE.out]; rfl, hb2'⟩
      · have e2 : (a == 5400000) = false := by simp [h2]
        by_cases h3 : a = -5400000
        · have hE : Hid (R = true) := Lib.hid (by rw [HR.out, inBox, hin]; simp [h3])
          subst h3
          clear hin
          go_wp2
          go_ret2
          exact ⟨by rw [hE.out]; rfl, hb2'⟩
        · have e3 : (a == -5400000) = false := by simp [h3]
          have hE : Hid (R = lonIn b2 b3 b) := Lib.hid (by rw [HR.out, inBox, hin]; simp [h2, h3])
          generalize lonIn b2 b3 b = z at K3 hE
          clear hin
          go_wp2_with (go_at_call 83; (with_reducible refine (K3.out _).mono ?_); rintro e w3 ⟨rfl, hb3⟩)
          go_ret2
          exact ⟨by rw [hE.out]; rfl, hb2'.trans (hb3.mono hb2'.size)⟩
end Go.Proofs.YtlhdneeiikemjaaGreat
/- Rows of ints and of spans: slices.Sort at int, slices.Clone at spans. -/
namespace Go.Proofs.YtlhdneeiikemjaaGreat
open Go.RowKit Go.Sort Go.Shelf
def ivs (X : List Int) : List Value := X.map (Value.int .i64)
theorem ivs_length (X : List Int) : (ivs X).length = X.length := by simp [ivs]
theorem ivs_at (X : List Int) (k : Nat) (hk : k < X.length) : (ivs X)[k]? = some (.int .i64 (ge X k)) := by simp [ivs, ge, hk]
theorem ivs_append (X Y : List Int) : ivs (X ++ Y) = ivs X ++ ivs Y := by simp [ivs]
theorem ivs_one (X : List Int) : ∀ u ∈ ivs X, u.oneCell' = true := by
  intro u hu
  simp only [ivs, List.mem_map] at hu
  obtain ⟨x, _, rfl⟩ := hu
  rfl
theorem spvs_one (D : List Sp) : ∀ u ∈ spvs D, u.oneCell' = true := by
  intro u hu
  simp only [spvs, List.mem_flatMap] at hu
  obtain ⟨x, _, hx⟩ := hu
  exact spv_one x u hx
def sortI (X : List Int) : List Int := X.mergeSort fun x y => decide (x ≤ y)
theorem sortI_length (X : List Int) : (sortI X).length = X.length := List.length_mergeSort _
theorem putRow_ints (w : World) (g : Nat) (X : List Int) : putRow (Value.int .i64) w g 0 X.toArray = putRow id w g 0 (ivs X).toArray := by
  unfold putRow
  congr 1
  funext c
  unfold putCells
  simp only [List.size_toArray, ivs_length]
  congr 1
  funext i
  by_cases h : 0 ≤ i ∧ i < 0 + X.length
  · have h2 : i < X.length := by omega
    simp [h2, ivs]
  · have h2 : ¬ i < X.length := by omega
    simp [h2]
theorem sortInt_any (base : Nat) (v : Value) (X : List Int) (w : World) (h : w.ownsRow base 3 1 v X.length (ivs X)) (hn : X.length < 4611686018427387904) :
    Calls Tryz.prog 163 #[v] w fun e w' => e = .returned (.tuple #[]) ∧ w'.ownsRow base 3 1 v X.length (ivs (sortI X)) ∧ w.grownBy w' v.ownBlock := by
  rcases Nat.eq_zero_or_pos X.length with h0 | h0
  · have hX : X = [] := List.eq_nil_of_length_eq_zero h0
    subst hX
    have hs : sortI [] = [] := by simp [sortI]
    rw [hs]
    obtain ⟨A, c, rfl, _⟩ := own_form h
    have hcon := Any.slices_Sort_int_none Tryz.sortInt A c w
    change Calls Tryz.prog 163 _ _ _ at hcon
    refine hcon.mono ?_
    rintro e w' ⟨rfl, rfl⟩
    exact ⟨rfl, h, World.grownBy.refl _ _⟩
  · obtain ⟨g, cap, rfl, hg, hlt⟩ := h.form h0
    have hH : Holds (Value.int .i64) w g 0 X.toArray := by
      intro j hj
      have hj' : j < X.length := by simpa using hj
      have hu : (ivs X)[j]? = some (.int .i64 (X.toArray[j]!)) := by simp [ivs, hj']
      have := own_cell h j _ hu
      simpa using this
    have hcon := Any.slices_Sort_int Tryz.sortInt g 0 cap X w hH hlt hn
    change Calls Tryz.prog 163 _ _ _ at hcon
    refine hcon.mono ?_
    rintro e w' ⟨rfl, m, os, rfl⟩
    have hr := own_row w base _ 1 X.length cap g m _ (ivs (sortI X)).toArray os h (by simp [ivs, sortI])
    have hp := putRow_ints (Sort.ahead w m) g (sortI X)
    unfold sortI at hp
    rw [hp]
    exact ⟨rfl, hr.1, hr.2⟩
set_option maxHeartbeats 1000000 in
theorem Clone_any (A : Option Addr) (n ca : Nat) (D : List Sp) (w : World) (hr : Reads w w.heap.size 2 A n (spvs D)) (hn : n ≤ 1000000) :
    Calls Tryz.prog 162 #[.slice A n ca] w (RetSpans w D) := by
  have hl : D.length = n := by have := hr.1; rw [spvs_length] at this; omega
  obtain ⟨i0, hi0, hz0, hz1, hzb⟩ := info_parts Tryz.infoSpan
  have RD := Lib.hid hr
  cases A with
  | none =>
    have hn0 : n = 0 := by
      rcases Nat.eq_zero_or_pos n with h | h
      · exact h
      · obtain ⟨ad, e, _⟩ := hr.2 h
        cases e
    subst hn0
    have hD : D = [] := List.eq_nil_of_length_eq_zero hl
    subst hD
    have hq : ∀ (W : World) (c : Nat), (binOp .eql 86 (.slice none 0 c) (.slice none 0 0)).run Tryz.prog W = .ok (.bool true) W := fun W c => Go.Lib.run_eql_slice_nil W 86 118 none 0 c 0 0 Tryz.underlying86
    clear hr RD
    go_enter Tryz.func162, Tryz.ntmps162
    go_wp2
    go_ret
    exact ⟨_, rfl, own_nil _ _ _ _, Below.refl _ _⟩
  | some ad =>
    have hq : ∀ (W : World) (n c : Nat), (binOp .eql 86 (.slice (some ad) n c) (.slice none 0 0)).run Tryz.prog W = .ok (.bool false) W := fun W n c => Go.Lib.run_eql_slice_nil W 86 118 (some ad) n c 0 0 Tryz.underlying86
    clear hr
    go_enter Tryz.func162, Tryz.ntmps162
    go_wp2_with (at_builtin; (refine wpList_append_any _ rfl (.tmp 5) (.tmp 6) _ rfl w.heap.size 118 i0 _ 2 16 Tryz.underlying86 hi0 hz0 hz1 hzb rfl (by decide) (.slice (some ⟨w.heap.size, 0, none⟩) 0 0) 0 [] rfl (own_new w w.heap.size 118 2 0 _ #[] rfl (Nat.le_refl _) rfl (by simp [maxLen])) w.heap.size (some ad) n ca (spvs D) rfl (RD.out.alloc (Nat.le_refl _) _) (spvs_one D) (by simp only [maxLen]; omega) (by omega) (by simp) ?_); intro v2 w2 hown2 hg2 hat2)
    go_ret
    rw [Nat.zero_add, List.nil_append] at hown2
    exact ⟨_, rfl, by rw [hl]; exact hown2, ((Below.refl _ _).alloc (Nat.le_refl _) _).grown hg2 (by simp) (fun k hk => by simp [Value.ownBlock] at hk; omega)⟩
end Go.Proofs.YtlhdneeiikemjaaGreat
namespace Go.Proofs.YtlhdneeiikemjaaGreat
open Go.RowKit
/-- one number more, if it is not the last one again -/
def cptF (acc : List Int) (x : Int) : List Int := if acc.getLast? = some x then acc else acc ++ [x]
/-- no number twice in a row -/
def cpt (X : List Int) : List Int := X.foldl cptF []
theorem cpt_snoc (X : List Int) (x : Int) : cpt (X ++ [x]) = cptF (cpt X) x := by simp [cpt]
theorem cptF_last (acc : List Int) (x : Int) : (cptF acc x).getLast? = some x := by
  unfold cptF
  split
  · assumption
  · simp
theorem cptF_len (acc : List Int) (x : Int) : (cptF acc x).length ≤ acc.length + 1 := by
  unfold cptF
  split <;> simp
theorem takeI (X : List Int) (k : Nat) (hk : k < X.length) : X.take (k + 1) = X.take k ++ [ge X k] := by
  rw [List.take_succ_eq_append_getElem hk]
  simp [ge, hk]
theorem cpt_last (X : List Int) (k : Nat) (hk : k < X.length) : (cpt (X.take (k + 1))).getLast? = some (ge X k) := by
  rw [takeI X k hk, cpt_snoc, cptF_last]
theorem cpt_same (X : List Int) (k : Nat) (hk : k + 1 < X.length) (h : ge X (k + 1) = ge X k) : cpt (X.take (k + 2)) = cpt (X.take (k + 1)) := by
  rw [takeI X (k + 1) hk, cpt_snoc]
  unfold cptF
  rw [if_pos (by rw [cpt_last X k (by omega), h])]
theorem cpt_new (X : List Int) (k : Nat) (hk : k + 1 < X.length) (h : ¬ ge X (k + 1) = ge X k) : cpt (X.take (k + 2)) = cpt (X.take (k + 1)) ++ [ge X (k + 1)] := by
  rw [takeI X (k + 1) hk, cpt_snoc]
  unfold cptF
  rw [if_neg (by rw [cpt_last X k (by omega)]; intro e; exact h (Option.some.inj e).symm)]
theorem cpt_len (X : List Int) : (cpt X).length ≤ X.length := by
  have : ∀ (X acc : List Int), (X.foldl cptF acc).length ≤ acc.length + X.length := by
    intro X
    induction X with
    | nil => intro acc; simp
    | cons x r ih =>
      intro acc
      have h1 := ih (cptF acc x)
      have h2 := cptF_len acc x
      simp only [List.foldl_cons, List.length_cons]
      omega
  simpa [cpt] using this X []
theorem cpt_one (X : List Int) (h : 0 < X.length) : cpt (X.take 1) = X.take 1 := by
  match X, h with
  | x :: r, _ => simp [cpt, cptF]
theorem cpt_few (X : List Int) (h : X.length < 2) : cpt X = X := by
  match X, h with
  | [], _ => rfl
  | [x], _ => simp [cpt, cptF]
theorem fold_cpt : ∀ (X acc : List Int), acc.Pairwise (· < ·) → (∀ a ∈ acc, ∀ x ∈ X, a ≤ x) → X.Pairwise (· ≤ ·) → (X.foldl cptF acc).Pairwise (· < ·) ∧ ∀ y, y ∈ X.foldl cptF acc ↔ (y ∈ acc ∨ y ∈ X)
  | [], acc, h, _, _ => ⟨h, fun y => by simp⟩
  | x :: X, acc, h, hle, hX => by
    rw [List.pairwise_cons] at hX
    have hc : (cptF acc x).Pairwise (· < ·) ∧ ∀ y, y ∈ cptF acc x ↔ (y ∈ acc ∨ y = x) := by
      unfold cptF
      by_cases hl : acc.getLast? = some x
      · rw [if_pos hl]
        refine ⟨h, fun y => ⟨.inl, ?_⟩⟩
        rintro (hy | rfl)
        · exact hy
        · exact List.mem_of_getLast? hl
      · rw [if_neg hl]
        refine ⟨?_, fun y => by simp⟩
        rw [List.pairwise_append]
        refine ⟨h, by simp, fun a ha b hb => ?_⟩
        rw [List.mem_singleton] at hb
        subst hb
        have hab := hle a ha b (by simp)
        rcases Int.lt_or_eq_of_le hab with h1 | h1
        · exact h1
        · exfalso
          subst h1
          rcases List.eq_nil_or_concat acc with h0 | ⟨M, t, h0⟩
          · rw [h0] at ha; cases ha
          · rw [List.concat_eq_append] at h0
            subst h0
            have ht := hle t (by simp) a (by simp)
            rw [List.pairwise_append] at h
            rw [List.mem_append, List.mem_singleton] at ha
            rcases ha with ha | ha
            · have := h.2.2 a ha t (by simp)
              omega
            · subst ha
              simp at hl
    obtain ⟨g1, g2⟩ := fold_cpt X (cptF acc x) hc.1 (fun a ha y hy => by
      rcases (hc.2 a).1 ha with h1 | h1
      · exact hle a h1 y (by simp [hy])
      · rw [h1]; exact hX.1 y hy) hX.2
    refine ⟨g1, fun y => ?_⟩
    rw [List.foldl_cons, g2, hc.2, List.mem_cons]
    constructor
    · rintro ((h1 | h1) | h1)
      · exact .inl h1
      · exact .inr (.inl h1)
      · exact .inr (.inr h1)
    · rintro (h1 | h1 | h1)
      · exact .inl (.inl h1)
      · exact .inl (.inr h1)
      · exact .inr h1
theorem cpt_sorted (X : List Int) : (cpt (sortI X)).Pairwise (· < ·) ∧ ∀ y, y ∈ cpt (sortI X) ↔ y ∈ X := by
  have hs : (sortI X).Pairwise (· ≤ ·) := by
    have h := List.pairwise_mergeSort (le := fun x y : Int => decide (x ≤ y)) (by intro a b c h1 h2; simp only [decide_eq_true_eq] at *; omega) (by intro a b; simp only [Bool.or_eq_true, decide_eq_true_eq]; omega) X
    exact Canon.pairs_less (fun a b h => by simpa using h) h
  obtain ⟨h1, h2⟩ := fold_cpt (sortI X) [] (by simp) (by simp) hs
  refine ⟨h1, fun y => ?_⟩
  rw [cpt, h2]
  simp [sortI, List.mem_mergeSort]
/-! ### rows -/
theorem own_take {w : World} {base g cap : Nat} {e : TypeId} {size n k : Nat} {xs : List Value} (h : w.ownsRow base e size (.slice (some ⟨g, 0, none⟩) n cap) n xs) (hk : k ≤ n) :
    w.ownsRow base e size (.slice (some ⟨g, 0, none⟩) k cap) k (xs.take (k * size)) := by
  have hks : k * size ≤ n * size := Nat.mul_le_mul_right _ hk
  refine ⟨by rw [List.length_take, h.1]; omega, ?_⟩
  rcases h.2 with ⟨h1, _⟩ | ⟨g', cap', cur, hv, hg, hh, hnc, hcm, hcs, htk⟩
  · cases h1
  · injection hv with e1 e2 e3
    injection e1 with e1
    injection e1 with e1
    subst e1 e3
    refine .inr ⟨g, cap, cur, rfl, hg, hh, by omega, hcm, hcs, ?_⟩
    rw [← htk, List.take_take]
    congr 1
    omega
theorem own_setCells {base g cap : Nat} {e : TypeId} {n : Nat} : ∀ (vs : List Value) (o : Nat) (w : World) (xs : List Value), w.ownsRow base e 1 (.slice (some ⟨g, 0, none⟩) n cap) n xs → o + vs.length ≤ n →
    ∃ ys, (w.setCells g o vs).ownsRow base e 1 (.slice (some ⟨g, 0, none⟩) n cap) n ys ∧ ys.take o = xs.take o
  | [], o, w, xs, h, _ => ⟨xs, h, rfl⟩
  | v :: vs, o, w, xs, h, ho => by
    simp only [List.length_cons] at ho
    obtain ⟨ys, h1, h2⟩ := own_setCells vs (o + 1) (w.setCell ⟨g, o, none⟩ v) (xs.set o v) (own_set h o v (by omega)) (by omega)
    refine ⟨ys, h1, ?_⟩
    have h3 := congrArg (List.take o) h2
    rw [List.take_take, List.take_take, show min o (o + 1) = o by omega] at h3
    rw [h3, List.take_set_of_le (Nat.le_refl _)]
theorem bl_setCells {base g : Nat} {w0 : World} (hg : base ≤ g) : ∀ (vs : List Value) (o : Nat) (w : World), Below base w0 w → Below base w0 (w.setCells g o vs)
  | [], _, _, h => h
  | v :: vs, o, w, h => bl_setCells hg vs (o + 1) _ (h.setCell (p := ⟨g, o, none⟩) hg v)
theorem ivs_take (X : List Int) (k : Nat) : (ivs X).take k = ivs (X.take k) := by simp [ivs, List.map_take]
theorem ivs_set (X : List Int) (k : Nat) (u : Int) : (ivs X).set k (.int .i64 u) = ivs (X.set k u) := by simp [ivs, List.map_set]
theorem ge_set_ne (X : List Int) (k j : Nat) (u : Int) (h : ¬ k = j) : ge (X.set k u) j = ge X j := by simp [ge, List.getElem?_set, h]
theorem Tryz.zeroInt : ∀ w, (zeroValue 3).run Tryz.prog w = .ok (.int .i64 0) w := fun w => by go_simp
end Go.Proofs.YtlhdneeiikemjaaGreat
