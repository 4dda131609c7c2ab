/- Plain words shared by all walks of this seat: powers of two, draws over Below, slices that read as lists. -/
import Derived.Test.YtlglalemhfjmhaaProg
import Derived.WalkKit
import Derived.WalkSpells
import Derived.WalkLawsBesides
import Derived.Deep.QuietTactic
import Derived.BigQuiet
import Derived.Lib.Hide
import Derived.IntWalk
import Derived.Deep.AppendLies
import Derived.Maps.AppendAt
import Derived.RegionTactic
import Derived.OwnWalk
import Derived.Laws.OwnMore
import Derived.Deep.Draws
import Derived.Laws.BitsAllLaws
import Derived.Laws.BitsLemmas
import Derived.StillTailTactics
import Derived.Deep.LoopGhost
namespace Go.Proofs.Ytlglalemhfjmhaa
open Go.RowKit
def pw (l : Int) : Int := 2 ^ l.toNat
theorem pw_bd {l : Int} (h1 : l ≤ 16) : 1 ≤ pw l ∧ pw l ≤ 65536 := by
  unfold pw
  have h : l.toNat ≤ 16 := by omega
  have h2 : (2 : Int) ^ l.toNat ≤ 2 ^ 16 := by exact_mod_cast Nat.pow_le_pow_right (by omega : 0 < 2) h
  have h3 : 0 < (2 : Int) ^ l.toNat := Int.pow_pos (by omega)
  omega
theorem pw_wrap {l : Int} (h1 : l ≤ 16) : IntKind.i64.wrap (2 ^ l.toNat) = pw l := by
  have := pw_bd h1
  exact IntWalk.i64_in _ (by unfold pw at this; omega)
theorem pw_wrap2 {l : Int} (h1 : l ≤ 16) : IntKind.i64.wrap (2 * 2 ^ l.toNat) = 2 * pw l := by
  have := pw_bd h1
  exact IntWalk.i64_in _ (by unfold pw at this; omega)
theorem bl_drewN {B : Nat} {a w : World} (h : Below B a w) (n : Nat) : Below B a (w.drewN n) := ⟨h.os, h.tape, h.output, h.size, h.block⟩
theorem bl_drew {B : Nat} {a w : World} (h : Below B a w) : Below B a w.drew := ⟨h.os, h.tape, h.output, h.size, h.block⟩
theorem bl_alloc (w : World) (o : Obj) : Below w.heap.size w (w.alloc o) := (Below.refl _ _).alloc (Nat.le_refl _) _

/-- a region whose operations but the last ones only read: the world with one draw more, under its name -/
theorem wp_still_tail {P : Program} {id : Nat} {Q : Exit → Act → World → Prop} {a : Act} {w : World} {l : List Oper} (n : Nat) (hm : P.follows .mixedOrders = true) (hB : Region.lexTailB .any l.toArray n = true)
    (h : wpStill P l.toArray w.drew (fun a' => wpList P l.toArray Q (l.drop n) a' w.drew) (l.take n) a) : (Code.region id l.toArray true).wp P Q a w :=
  wp_region_still_tail n hm hB h

theorem quiet_add {P : Program} {f : FuncId} {args : Array Value} {w : World} {a n : Nat} {v : Value}
    (h : Calls P f args (w.drewN (a + n)) fun e w' => e = .returned v ∧ ∃ m, w' = (w.drewN (a + n)).drewN m) :
    Calls P f args (w.drewN (a + n)) fun e w'' => e = .returned v ∧ ∃ m, w'' = w.drewN (a + m) :=
  h.mono fun _ _ ⟨he, m, hm⟩ => ⟨he, n + m, by rw [hm, World.drewN_drewN, Nat.add_assoc]⟩
theorem quiet_add_same {P : Program} {f : FuncId} {args : Array Value} {w : World} {a n : Nat} {v : Value}
    (h : Calls P f args (w.drewN (a + n)) fun e w' => e = .returned v ∧ w' = w.drewN (a + n)) :
    Calls P f args (w.drewN (a + n)) fun e w'' => e = .returned v ∧ ∃ m, w'' = w.drewN (a + m) :=
  h.mono fun _ _ ⟨he, hm⟩ => ⟨he, n, hm⟩

/-- which cells are valid -/
def vldB (l r c : Int) : Bool := decide (0 ≤ l ∧ l ≤ 16 ∧ 0 ≤ r ∧ r < pw l ∧ 0 ≤ c ∧ c < 2 * pw l)
theorem vldB_true {l r c : Int} : vldB l r c = true ↔ (0 ≤ l ∧ l ≤ 16 ∧ 0 ≤ r ∧ r < pw l ∧ 0 ≤ c ∧ c < 2 * pw l) := by simp [vldB]
end Go.Proofs.Ytlglalemhfjmhaa
