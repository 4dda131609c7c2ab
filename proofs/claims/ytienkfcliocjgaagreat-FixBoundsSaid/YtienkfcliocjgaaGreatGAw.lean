/- The law FixBounds is true of all arguments. -/
import Derived.Test.YtienkfcliocjgaaGreatGAt
import Derived.Test.YtienkfcliocjgaaGreatGAv
import Derived.Test.YtienkfcliocjgaaGreatGAp
set_option linter.unusedVariables false
set_option linter.unusedSimpArgs false
namespace Go.Proofs.YtienkfcliocjgaaGreat
open Go.RowKit
set_option maxHeartbeats 1000000 in
set_option maxRecDepth 100000 in
theorem fixBounds_far (A : Option Addr) (n ca : Nat) (p0 p1 : Int) (w : World) (hn : 60 < n) :
    Calls Tryz.prog 3 #[.slice A n ca, .agg #[.int .i64 p0, .int .i64 p1]] w fun e w' => e = .returned (.bool true) ∧ Below w.heap.size w w' := by
  have KA := Lib.hid (fun W => awake40 W)
  have B0 := Lib.hid (bl_alloc w (.cells #[.int .i64 p0, .int .i64 p1] 24))
  have hn60 : (60 : Int) < n := by omega
  go_enter Tryz.func3, Tryz.ntmps3
  go_wp2_with fail
  (with_reducible refine (KA.out _).mono ?_)
  rintro e1 w1 ⟨rfl, hb1⟩
  have B1 := Lib.hid (B0.out.trans (hb1.mono B0.out.size))
  clear hb1 B0 KA
  go_wp2
  go_ret
  exact ⟨ret_bool (by simp), B1.out⟩
theorem fixBounds_any (A : Option Addr) (n ca : Nat) (L : List Cl) (p0 p1 : Int) (w : World) (hr : Reads w w.heap.size 3 A n (cvs L)) (hn : n ≤ ca) (hca : ca ≤ maxLen) :
    Calls Tryz.prog 3 #[.slice A n ca, .agg #[.int .i64 p0, .int .i64 p1]] w fun e w' => e = .returned (.bool true) ∧ Below w.heap.size w w' := by
  have hnm : n ≤ maxLen := Nat.le_trans hn hca
  by_cases h60 : n ≤ 60
  · have RD : ∀ W, Below w.heap.size w W → Reads W W.heap.size 3 A n (cvs L) := fun W hW => (hr.below hW).more hW.size
    have hll : L.length = n := hr.len
    have KV : ∀ W, Below w.heap.size w W → Calls Tryz.prog 8 #[.slice A n ca] W fun e w' => e = .returned (.bool (vrB L)) ∧ Below W.heap.size W w' := fun W hW => by
      rw [← rvrB_eq]; exact refVR_any A n ca L W (RD W hW) hn hca
    have KP : ∀ W, Calls Tryz.prog 9 #[.agg #[.int .i64 p0, .int .i64 p1]] W fun e w' => e = .returned (.bool (okP (p0, p1))) ∧ Below W.heap.size W w' := fun W => refVpt_any p0 p1 W
    cases hv : vrB L with
    | false =>
      rw [hv] at KV
      exact fixBounds_num A n ca p0 p1 0 0 0 0 0 0 0 0 1 1 1 false _ w h60 (fun W hW => fBounds_no A n ca L 1 W (RD W hW) hnm (.inl ⟨hv, rfl⟩)) (fun W hW => fCenter_no A n ca L 1 W (RD W hW) hnm (.inl ⟨hv, rfl⟩)) (fun W hW => Radius_no A n ca L p0 p1 1 W (RD W hW) hnm (.inl ⟨hv, rfl⟩)) KV KP (.inl ⟨rfl, rfl, rfl, rfl, rfl, rfl, rfl, rfl, rfl, rfl, rfl, rfl⟩) (fun h => by cases h) (fun h => by cases h) (fun h => by cases h)
    | true =>
      rw [hv] at KV
      by_cases h0 : n = 0
      · cases hp : okP (p0, p1) with
        | false =>
          rw [hp] at KP
          exact fixBounds_num A n ca p0 p1 0 0 0 0 0 0 0 0 14 14 1 true false w h60 (fun W hW => fBounds_no A n ca L 14 W (RD W hW) hnm (.inr ⟨hv, h0, rfl⟩)) (fun W hW => fCenter_no A n ca L 14 W (RD W hW) hnm (.inr ⟨hv, h0, rfl⟩)) (fun W hW => Radius_no A n ca L p0 p1 1 W (RD W hW) hnm (.inr (.inl ⟨hv, hp, rfl⟩))) KV KP (.inr (.inl ⟨rfl, h0, rfl, rfl, rfl, rfl, rfl, rfl, rfl, rfl, rfl, rfl, rfl, rfl⟩)) (fun _ h => by omega) (fun _ h => by omega) (fun _ h => by omega)
        | true =>
          rw [hp] at KP
          exact fixBounds_num A n ca p0 p1 0 0 0 0 0 0 0 0 14 14 14 true true w h60 (fun W hW => fBounds_no A n ca L 14 W (RD W hW) hnm (.inr ⟨hv, h0, rfl⟩)) (fun W hW => fCenter_no A n ca L 14 W (RD W hW) hnm (.inr ⟨hv, h0, rfl⟩)) (fun W hW => Radius_no A n ca L p0 p1 14 W (RD W hW) hnm (.inr (.inr ⟨hv, hp, h0, rfl⟩))) KV KP (.inr (.inr (.inl ⟨rfl, h0, rfl, rfl, rfl, rfl, rfl, rfl, rfl, rfl, rfl, rfl, rfl, rfl⟩))) (fun _ h => by omega) (fun _ h => by omega) (fun _ h => by omega)
      · have hp0 : 0 < n := by omega
        cases hp : okP (p0, p1) with
        | false =>
          rw [hp] at KP
          exact fixBounds_num A n ca p0 p1 _ _ _ _ _ _ 0 0 0 0 1 true false w h60 (fun W hW => fBounds_yes A n ca L W (RD W hW) hnm hv hp0) (fun W hW => fCenter_yes A n ca L W (RD W hW) hnm hv hp0) (fun W hW => Radius_no A n ca L p0 p1 1 W (RD W hW) hnm (.inr (.inl ⟨hv, hp, rfl⟩))) KV KP (.inr (.inr (.inr (.inl ⟨rfl, hp0, rfl, rfl, rfl, rfl, rfl, rfl⟩)))) (fun _ _ W hW => rBounds_any A n ca L W (RD W hW) hv hp0) (fun _ _ W hW => rCenter_any A n ca L W (RD W hW) hv hp0) (fun _ _ h => by cases h)
        | true =>
          rw [hp] at KP
          exact fixBounds_num A n ca p0 p1 _ _ _ _ _ _ _ _ 0 0 0 true true w h60 (fun W hW => fBounds_yes A n ca L W (RD W hW) hnm hv hp0) (fun W hW => fCenter_yes A n ca L W (RD W hW) hnm hv hp0) (fun W hW => Radius_yes A n ca L p0 p1 W (RD W hW) hnm hv hp hp0) KV KP (.inr (.inr (.inr (.inr ⟨rfl, hp0, rfl, rfl, rfl, rfl⟩)))) (fun _ _ W hW => rBounds_any A n ca L W (RD W hW) hv hp0) (fun _ _ W hW => rCenter_any A n ca L W (RD W hW) hv hp0) (fun _ _ _ W hW => rRadius_any A n ca L p0 p1 W (RD W hW) hnm hv hp hp0)
  · exact fixBounds_far A n ca p0 p1 w (by omega)
end Go.Proofs.YtienkfcliocjgaaGreat
