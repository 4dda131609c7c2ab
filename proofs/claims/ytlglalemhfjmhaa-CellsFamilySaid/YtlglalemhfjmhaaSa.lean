/- Rows of ints and of spans: slices.Sort at int, slices.Clone at spans. -/
import Derived.Test.YtlglalemhfjmhaaJd
import Derived.Lib.SliceRun
namespace Go.Proofs.Ytlglalemhfjmhaa
open Go.RowKit Go.Sort Go.Shelf
def ivs (X : List Int) : List Value := X.map (Value.int .i64)
theorem ivs_length (X : List Int) : (ivs X).length = X.length := by simp [ivs]
theorem ivs_at (X : List Int) (k : Nat) (hk : k < X.length) : (ivs X)[k]? = some (.int .i64 (ge X k)) := by simp [ivs, ge, hk]
theorem ivs_append (X Y : List Int) : ivs (X ++ Y) = ivs X ++ ivs Y := by simp [ivs]
theorem ivs_one (X : List Int) : ∀ u ∈ ivs X, u.oneCell' = true := by
  intro u hu
  simp only [ivs, List.mem_map] at hu
  obtain ⟨x, _, rfl⟩ := hu
  rfl
theorem spvs_one (D : List Sp) : ∀ u ∈ spvs D, u.oneCell' = true := by
  intro u hu
  simp only [spvs, List.mem_flatMap] at hu
  obtain ⟨x, _, hx⟩ := hu
  exact spv_one x u hx
def sortI (X : List Int) : List Int := X.mergeSort fun x y => decide (x ≤ y)
theorem sortI_length (X : List Int) : (sortI X).length = X.length := List.length_mergeSort _
theorem putRow_ints (w : World) (g : Nat) (X : List Int) : putRow (Value.int .i64) w g 0 X.toArray = putRow id w g 0 (ivs X).toArray := by
  unfold putRow
  congr 1
  funext c
  unfold putCells
  simp only [List.size_toArray, ivs_length]
  congr 1
  funext i
  by_cases h : 0 ≤ i ∧ i < 0 + X.length
  · have h2 : i < X.length := by omega
    simp [h2, ivs]
  · have h2 : ¬ i < X.length := by omega
    simp [h2]
theorem sortInt_any (base : Nat) (v : Value) (X : List Int) (w : World) (h : w.ownsRow base 3 1 v X.length (ivs X)) (hn : X.length < 4611686018427387904) :
    Calls Try.prog 105 #[v] w fun e w' => e = .returned (.tuple #[]) ∧ w'.ownsRow base 3 1 v X.length (ivs (sortI X)) ∧ w.grownBy w' v.ownBlock := by
  rcases Nat.eq_zero_or_pos X.length with h0 | h0
  · have hX : X = [] := List.eq_nil_of_length_eq_zero h0
    subst hX
    have hs : sortI [] = [] := by simp [sortI]
    rw [hs]
    obtain ⟨A, c, rfl, _⟩ := own_form h
    have hcon := Any.slices_Sort_int_none Try.sortInt A c w
    change Calls Try.prog 105 _ _ _ at hcon
    refine hcon.mono ?_
    rintro e w' ⟨rfl, rfl⟩
    exact ⟨rfl, h, World.grownBy.refl _ _⟩
  · obtain ⟨g, cap, rfl, hg, hlt⟩ := h.form h0
    have hH : Holds (Value.int .i64) w g 0 X.toArray := by
      intro j hj
      have hj' : j < X.length := by simpa using hj
      have hu : (ivs X)[j]? = some (.int .i64 (X.toArray[j]!)) := by simp [ivs, hj']
      have := own_cell h j _ hu
      simpa using this
    have hcon := Any.slices_Sort_int Try.sortInt g 0 cap X w hH hlt hn
    change Calls Try.prog 105 _ _ _ at hcon
    refine hcon.mono ?_
    rintro e w' ⟨rfl, m, os, rfl⟩
    have hr := own_row w base _ 1 X.length cap g m _ (ivs (sortI X)).toArray os h (by simp [ivs, sortI])
    have hp := putRow_ints (Sort.ahead w m) g (sortI X)
    unfold sortI at hp
    rw [hp]
    exact ⟨rfl, hr.1, hr.2⟩
set_option maxHeartbeats 1000000 in
theorem Clone_any (A : Option Addr) (n ca : Nat) (D : List Sp) (w : World) (hr : Reads w w.heap.size 2 A n (spvs D)) (hn : n ≤ 1000000) :
    Calls Try.prog 104 #[.slice A n ca] w (RetSpans w D) := by
  have hl : D.length = n := by have := hr.1; rw [spvs_length] at this; omega
  obtain ⟨i0, hi0, hz0, hz1, hzb⟩ := info_parts Try.infoSpan
  have RD := Lib.hid hr
  cases A with
  | none =>
    have hn0 : n = 0 := by
      rcases Nat.eq_zero_or_pos n with h | h
      · exact h
      · obtain ⟨ad, e, _⟩ := hr.2 h
        cases e
    subst hn0
    have hD : D = [] := List.eq_nil_of_length_eq_zero hl
    subst hD
    have hq : ∀ (W : World) (c : Nat), (binOp .eql 85 (.slice none 0 c) (.slice none 0 0)).run Try.prog W = .ok (.bool true) W := fun W c => Go.Lib.run_eql_slice_nil W 85 120 none 0 c 0 0 Try.underlying85
    clear hr RD
    go_enter Try.func104, Try.ntmps104
    go_wp2
    go_ret
    exact ⟨_, rfl, own_nil _ _ _ _, Below.refl _ _⟩
  | some ad =>
    have hq : ∀ (W : World) (n c : Nat), (binOp .eql 85 (.slice (some ad) n c) (.slice none 0 0)).run Try.prog W = .ok (.bool false) W := fun W n c => Go.Lib.run_eql_slice_nil W 85 120 (some ad) n c 0 0 Try.underlying85
    clear hr
    go_enter Try.func104, Try.ntmps104
    go_wp2_with (at_builtin; (refine wpList_append_any _ rfl (.tmp 5) (.tmp 6) _ rfl w.heap.size 120 i0 _ 2 16 Try.underlying85 hi0 hz0 hz1 hzb rfl (by decide) (.slice (some ⟨w.heap.size, 0, none⟩) 0 0) 0 [] rfl (own_new w w.heap.size 120 2 0 _ #[] rfl (Nat.le_refl _) rfl (by simp [maxLen])) w.heap.size (some ad) n ca (spvs D) rfl (RD.out.alloc (Nat.le_refl _) _) (spvs_one D) (by simp only [maxLen]; omega) (by omega) (by simp) ?_); intro v2 w2 hown2 hg2 hat2)
    go_ret
    rw [Nat.zero_add, List.nil_append] at hown2
    exact ⟨_, rfl, by rw [hl]; exact hown2, ((Below.refl _ _).alloc (Nat.le_refl _) _).grown hg2 (by simp) (fun k hk => by simp [Value.ownBlock] at hk; omega)⟩
end Go.Proofs.Ytlglalemhfjmhaa
