/- The walks of law38's valid, few. -/
import Derived.Test.YtlglalemhfjmhaaRg
namespace Go.Proofs.Ytlglalemhfjmhaa
open Go.RowKit
set_option maxHeartbeats 1000000 in
theorem lawValid1_any (x : Cl) (w : World) : Calls Try.prog 61 #[.agg #[.int .i64 x.1, .int .i64 x.2.1, .int .i64 x.2.2]] w fun e w' => e = .returned (.bool (!(vldB x.1 x.2.1 x.2.2))) ∧ Below w.heap.size w w' := by
  have V := Lib.hid (fun w => refValid_any x.1 x.2.1 x.2.2 w)
  go_enter Try.func61, Try.ntmps61
  go_wp2_with (go_at_call 19; refine (V.out _).mono ?_; rintro e w1 ⟨rfl, hb1⟩)
  go_ret
  exact ⟨rfl, (bl_alloc w _).trans (hb1.mono (by simp))⟩
theorem lawCont_any (A : Option Addr) (n c : Nat) (L : List Cl) (w : World) (hr : Reads w w.heap.size 3 A n (cvs L)) (hn : n ≤ maxLen) :
    Calls Try.prog 52 #[.slice A n c, .func (.func 61) #[] #[]] w fun e w' => e = .returned (.bool (L.any fun x => !(vldB x.1 x.2.1 x.2.2))) ∧ Below w.heap.size w w' :=
  contFunc_any _ _ _ (enters_of Try.func61 (by kernel_rfl) rfl) A n c L w hr hn fun W x _ => lawValid1_any x W
set_option maxHeartbeats 1000000 in
theorem lawValid_any (A : Option Addr) (n c : Nat) (L : List Cl) (w : World) (hr : Reads w w.heap.size 3 A n (cvs L)) (hn : n ≤ maxLen) :
    Calls Try.prog 16 #[.slice A n c] w fun e w' => e = .returned (.bool (!badL L)) ∧ Below w.heap.size w w' := by
  have H := lawCont_any A n c L w hr hn
  change Calls _ _ _ _ fun e w' => e = .returned (.bool (badL L)) ∧ _ at H
  have H2 := Lib.hid H
  clear H
  unfold maxLen at hn
  clear hr
  go_enter Try.func16, Try.ntmps16
  go_wp2_with fail
  refine H2.out.mono ?_
  rintro e w1 ⟨rfl, hb1⟩
  go_wp2
  go_ret
  exact ⟨rfl, hb1⟩
set_option maxHeartbeats 1000000 in
theorem few_one (g n ca : Nat) (A : Option Addr) (w : World) (h0 : w.cell? ⟨g, 0, none⟩ = some (.slice A n ca)) (hn : n ≤ maxLen) :
    Calls Try.prog 12 #[.slice (some ⟨g, 0, none⟩) 1 1] w fun e w' => e = .returned (.bool (decide (n ≤ 150))) ∧ w' = w := by
  unfold maxLen at hn
  go_enter Try.func12, Try.ntmps12
  go_wp2
  go_loopw [3, 8] (fun s i wr => wr = w ∧ ((s = .int .i64 0 ∧ i = .int .i64 0) ∨ (s = .int .i64 n ∧ i = .int .i64 1))) (fun _ i _ => 1 - (intOf i).toNat)
  case atStart => exact ⟨rfl, .inl ⟨rfl, rfl⟩⟩
  case round =>
    obtain ⟨rfl, ⟨rfl, rfl⟩ | ⟨rfl, rfl⟩⟩ := hrel
    · go_wp2
      go_roundw
      case rel => simp
      case measure => simp [intOf]
    · go_wp2
      go_ret
      exact ⟨ret_bool (by simp; omega), rfl⟩
end Go.Proofs.Ytlglalemhfjmhaa
