/- logbook.Decode of bytes that begin with no kind of record. -/
import Derived.Test.YthfndnmfnijpeaaGreatHLz
set_option linter.unusedVariables false
set_option linter.unusedSimpArgs false
namespace Go.Proofs.YthfndnmfnijpeaaGreat
open Go.RowKit
open LB (Bs Rec St)
set_option maxHeartbeats 4000000 in
set_option maxRecDepth 100000 in
theorem decNil_any (A : Option Addr) (c : Nat) (w : World) :
    Calls Tryz.prog 6 #[.slice A 0 c] w fun e w' => (∃ A' n' c', e = .returned (.tuple #[recV (LB.dec vaB []).1 (.slice A' n' c'), .int .i64 (LB.dec vaB []).2]) ∧ IntsAt w' A' (LB.dec vaB []).1.list ∧ (LB.dec vaB []).1.list.length = n' ∧ n' ≤ c' ∧ c' ≤ maxLen) ∧ Below w.heap.size w w' := by
  have hd := Lib.hid (show LB.dec vaB [] = (Rec.zero, 7) from rfl)
  go_enter Tryz.func6, Tryz.ntmps6
  go_upto_region 2 with fail
  iterate 4 go_step
  refine wpList_store_row rfl _ (.tmp 2) (.tmp 25) rfl _ _ rfl rfl _ _ (heap_alloc_last _ _) (by kernel_rfl) (by rfl) (by simp [Value.oneCell']) ?_
  rw [World.setRow_alloc_new]
  simp only [Act.put, List.setIfInBounds_toArray, List.set_cons_zero, List.set_cons_succ]
  have ZZ := Lib.hid (Blk.new w 33 #[.int .i64 0, .int .i64 0, .int .i64 0, .int .i64 0, .int .i64 0, .int .i64 0, .int .i64 0, .int .i64 0, .int .i64 0, .int .i64 0, .int .i64 0, txb [], .int .i64 0, .int .i64 0, .int .i64 0, .int .i64 0, .int .i64 0, .int .i64 0, .int .i64 0, .int .i64 0, .int .i64 0, .int .i64 0, .slice none 0 0, txb []])
  have BB := Lib.hid (bl_alloc w (.cells #[.int .i64 0, .int .i64 0, .int .i64 0, .int .i64 0, .int .i64 0, .int .i64 0, .int .i64 0, .int .i64 0, .int .i64 0, .int .i64 0, .int .i64 0, txb [], .int .i64 0, .int .i64 0, .int .i64 0, .int .i64 0, .int .i64 0, .int .i64 0, .int .i64 0, .int .i64 0, .int .i64 0, .int .i64 0, .slice none 0 0, txb []] 33))
  generalize w.alloc (.cells #[.int .i64 0, .int .i64 0, .int .i64 0, .int .i64 0, .int .i64 0, .int .i64 0, .int .i64 0, .int .i64 0, .int .i64 0, .int .i64 0, .int .i64 0, txb [], .int .i64 0, .int .i64 0, .int .i64 0, .int .i64 0, .int .i64 0, .int .i64 0, .int .i64 0, .int .i64 0, .int .i64 0, .int .i64 0, .slice none 0 0, txb []] 33) = wz at ZZ BB ⊢
  go_wp2
  exact bodyPost_ret_by (ret_rec rfl ZZ.out rfl) rfl ⟨⟨none, 0, 0, by rw [hd.out]; rfl, by rw [hd.out]; exact .inl rfl, by rw [hd.out]; rfl, Nat.le_refl _, by simp [maxLen]⟩, BB.out⟩
set_option maxHeartbeats 4000000 in
set_option maxRecDepth 100000 in
theorem decOut_any (kb : UInt8) (hkb : kb.toNat < 1 ∨ 5 < kb.toNat) (t : Bs) (A : Option Addr) (n c : Nat) (w : World) (hA : BytesAt w w.heap.size A (kb :: t)) (hn : (kb :: t).length = n) :
    Calls Tryz.prog 6 #[.slice A n c] w fun e w' => (∃ A' n' c', e = .returned (.tuple #[recV (LB.dec vaB (kb :: t)).1 (.slice A' n' c'), .int .i64 (LB.dec vaB (kb :: t)).2]) ∧ IntsAt w' A' (LB.dec vaB (kb :: t)).1.list ∧ (LB.dec vaB (kb :: t)).1.list.length = n' ∧ n' ≤ c' ∧ c' ≤ maxLen) ∧ Below w.heap.size w w' := by
  have hd := Lib.hid (show LB.dec vaB (kb :: t) = (Rec.zero, 7) from if_pos hkb)
  obtain ⟨q, off, rfl, hq, y0, hT⟩ := hA.cons
  have y1 : ∀ o, (w.alloc o).cell? ⟨q, off, none⟩ = some (.int .u8 (kb.toNat : Int)) := fun o => (World.cell?_alloc_lt w o ⟨q, off, none⟩ hq).trans y0
  have dn : ((n : Int) == 0) = false := by simp at hn ⊢; omega
  have hn0 : ¬ n = 0 := by simp at hn; omega
  have hk256 := kb.toNat_lt
  generalize kb.toNat = k at *
  rcases hkb with h | h
  · obtain rfl : k = 0 := by omega
    clear hA hT
    go_enter Tryz.func6, Tryz.ntmps6
    go_upto_region 2 with fail
    iterate 4 go_step
    refine wpList_store_row rfl _ (.tmp 2) (.tmp 25) rfl _ _ rfl rfl _ _ (heap_alloc_last _ _) (by kernel_rfl) (by rfl) (by simp [Value.oneCell']) ?_
    rw [World.setRow_alloc_new]
    simp only [Act.put, List.setIfInBounds_toArray, List.set_cons_zero, List.set_cons_succ]
    have ZZ := Lib.hid (Blk.new w 33 #[.int .i64 0, .int .i64 0, .int .i64 0, .int .i64 0, .int .i64 0, .int .i64 0, .int .i64 0, .int .i64 0, .int .i64 0, .int .i64 0, .int .i64 0, txb [], .int .i64 0, .int .i64 0, .int .i64 0, .int .i64 0, .int .i64 0, .int .i64 0, .int .i64 0, .int .i64 0, .int .i64 0, .int .i64 0, .slice none 0 0, txb []])
    have BB := Lib.hid (bl_alloc w (.cells #[.int .i64 0, .int .i64 0, .int .i64 0, .int .i64 0, .int .i64 0, .int .i64 0, .int .i64 0, .int .i64 0, .int .i64 0, .int .i64 0, .int .i64 0, txb [], .int .i64 0, .int .i64 0, .int .i64 0, .int .i64 0, .int .i64 0, .int .i64 0, .int .i64 0, .int .i64 0, .int .i64 0, .int .i64 0, .slice none 0 0, txb []] 33))
    generalize w.alloc (.cells #[.int .i64 0, .int .i64 0, .int .i64 0, .int .i64 0, .int .i64 0, .int .i64 0, .int .i64 0, .int .i64 0, .int .i64 0, .int .i64 0, .int .i64 0, txb [], .int .i64 0, .int .i64 0, .int .i64 0, .int .i64 0, .int .i64 0, .int .i64 0, .int .i64 0, .int .i64 0, .int .i64 0, .int .i64 0, .slice none 0 0, txb []] 33) = wz at ZZ BB ⊢
    go_wp2
    exact bodyPost_ret_by (ret_rec rfl ZZ.out rfl) rfl ⟨⟨none, 0, 0, by rw [hd.out]; rfl, by rw [hd.out]; exact .inl rfl, by rw [hd.out]; rfl, Nat.le_refl _, by simp [maxLen]⟩, BB.out⟩
  · clear hA hT
    have d1 : ¬ (k : Int) < 1 := by omega
    have d5 : 5 < k := h
    have e1 : wrap64 (k : Int) = (k : Int) := IntWalk.wrap64_in _ (by omega)
    go_enter Tryz.func6, Tryz.ntmps6
    go_upto_region 2 with fail
    iterate 4 go_step
    refine wpList_store_row rfl _ (.tmp 2) (.tmp 25) rfl _ _ rfl rfl _ _ (heap_alloc_last _ _) (by kernel_rfl) (by rfl) (by simp [Value.oneCell']) ?_
    rw [World.setRow_alloc_new]
    simp only [Act.put, List.setIfInBounds_toArray, List.set_cons_zero, List.set_cons_succ]
    have ZZ := Lib.hid (Blk.new w 33 #[.int .i64 0, .int .i64 0, .int .i64 0, .int .i64 0, .int .i64 0, .int .i64 0, .int .i64 0, .int .i64 0, .int .i64 0, .int .i64 0, .int .i64 0, txb [], .int .i64 0, .int .i64 0, .int .i64 0, .int .i64 0, .int .i64 0, .int .i64 0, .int .i64 0, .int .i64 0, .int .i64 0, .int .i64 0, .slice none 0 0, txb []])
    have BB := Lib.hid (bl_alloc w (.cells #[.int .i64 0, .int .i64 0, .int .i64 0, .int .i64 0, .int .i64 0, .int .i64 0, .int .i64 0, .int .i64 0, .int .i64 0, .int .i64 0, .int .i64 0, txb [], .int .i64 0, .int .i64 0, .int .i64 0, .int .i64 0, .int .i64 0, .int .i64 0, .int .i64 0, .int .i64 0, .int .i64 0, .int .i64 0, .slice none 0 0, txb []] 33))
    generalize w.alloc (.cells #[.int .i64 0, .int .i64 0, .int .i64 0, .int .i64 0, .int .i64 0, .int .i64 0, .int .i64 0, .int .i64 0, .int .i64 0, .int .i64 0, .int .i64 0, txb [], .int .i64 0, .int .i64 0, .int .i64 0, .int .i64 0, .int .i64 0, .int .i64 0, .int .i64 0, .int .i64 0, .int .i64 0, .int .i64 0, .slice none 0 0, txb []] 33) = wz at ZZ BB ⊢
    go_wp2
    exact bodyPost_ret_by (ret_rec rfl ZZ.out rfl) rfl ⟨⟨none, 0, 0, by rw [hd.out]; rfl, by rw [hd.out]; exact .inl rfl, by rw [hd.out]; rfl, Nat.le_refl _, by simp [maxLen]⟩, BB.out⟩
end Go.Proofs.YthfndnmfnijpeaaGreat
