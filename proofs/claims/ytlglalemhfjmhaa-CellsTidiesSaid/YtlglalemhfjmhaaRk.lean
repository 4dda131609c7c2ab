/- The walk of the reference's Made. -/
import Derived.Test.YtlglalemhfjmhaaRj
import Derived.Test.YtlglalemhfjmhaaJb
namespace Go.Proofs.Ytlglalemhfjmhaa
open Go.RowKit
set_option maxHeartbeats 1000000 in
set_option maxRecDepth 100000 in
theorem Made_any (op : Int) (A B : Option Addr) (n m ca cb : Nat) (L M : List Cl) (w : World)
    (ha : Reads w w.heap.size 3 A n (cvs L)) (hb : Reads w w.heap.size 3 B m (cvs M)) (hn : n ≤ 1000000) (hm : m ≤ 1000000) (hL : lvOk L) (hM : lvOk M) (hop : op = 1 ∨ op = 2 ∨ op = 3) :
    Calls Try.prog 18 #[.int .i64 op, .slice A n ca, .slice B m cb] w (RetCells1 w (madeL op L M)) := by
  obtain ⟨R, hR⟩ : ∃ R, R = madeL op L M := ⟨_, rfl⟩
  rw [← hR]
  have HR := Lib.hid hR
  clear hR
  have K1 : Hid (∀ W, Below w.heap.size w W → Calls Try.prog 62 #[.int .i64 op, .slice A n ca, .slice B m cb, .agg #[.int .i64 0, .int .i64 0, .int .i64 0], .bool false, .bool false] W (RetCells1 W (wthL op 17 L M (0, 0, 0) false false))) := Lib.hid (fun W hW => within_any 17 op A B n m ca cb L M 0 0 0 false false W ((ha.below hW).more hW.size) ((hb.below hW).more hW.size) hn hm hL hM (by decide) (by decide) hop)
  have K2 : Hid (∀ W, Below w.heap.size w W → Calls Try.prog 62 #[.int .i64 op, .slice A n ca, .slice B m cb, .agg #[.int .i64 0, .int .i64 0, .int .i64 1], .bool false, .bool false] W (RetCells1 W (wthL op 17 L M (0, 0, 1) false false))) := Lib.hid (fun W hW => within_any 17 op A B n m ca cb L M 0 0 1 false false W ((ha.below hW).more hW.size) ((hb.below hW).more hW.size) hn hm hL hM (by decide) (by decide) hop)
  have l1 : (wthL op 17 L M (0, 0, 0) false false).length ≤ 17179869184 := wthL_length op 17 L M (0, 0, 0) false false
  have l2 : (wthL op 17 L M (0, 0, 1) false false).length ≤ 17179869184 := wthL_length op 17 L M (0, 0, 1) false false
  have HE : Hid (R = wthL op 17 L M (0, 0, 0) false false ++ wthL op 17 L M (0, 0, 1) false false) := Lib.hid HR.out
  clear HR ha hb hL hM hop
  generalize wthL op 17 L M (0, 0, 0) false false = U at *
  generalize wthL op 17 L M (0, 0, 1) false false = V at *
  obtain ⟨i0, hi0, hz0, hz1, hz2⟩ := info_parts Try.infoCell
  go_enter Try.func18, Try.ntmps18
  go_wp2_with fail
  (with_reducible refine (K1.out _ (Below.refl _ _)).mono ?_)
  rintro e w1 ⟨v1, rfl, hown1, hb1⟩
  go_wp2_with fail
  (with_reducible refine (K2.out _ hb1).mono ?_)
  rintro e w2 ⟨v2, rfl, hown2, hb2⟩
  have hown := own_bl hown1 hb2 (Nat.le_refl _)
  obtain ⟨A2, c2, rfl, hr2, -⟩ := own_form hown2
  have z1 := hb1.size
  have z2 := hb2.size
  have R2 := Lib.hid hr2
  clear hr2 hown1 hown2 K1 K2
  go_wp2_with (at_builtin; (refine wpList_append_any _ rfl (.tmp 13) (.tmp 18) _ rfl w.heap.size 32 i0 _ 3 24 Try.underlying22 hi0 hz0 hz1 hz2 rfl (by decide) v1 _ _ rfl hown w2.heap.size A2 _ c2 _ rfl R2.out (cvs_one _) (by simp only [maxLen]; omega) (by omega) (by omega) ?_); intro v8 w8 hown8 hg8 hat8)
  go_ret
  rw [HE.out]
  exact ⟨_, rfl, by rw [cvs_append, List.length_append]; exact hown8, (hb1.trans (hb2.mono z1)).grown hg8 (by omega) (own_base hown)⟩
end Go.Proofs.Ytlglalemhfjmhaa
