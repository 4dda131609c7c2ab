/-
  No cell of these rows narrows 'for every input' (looked for: loops, veiled, ifaces, maps, wideKeys, modest, calm, conditions, laid).
  DERIVED. THE GIVEN ROWS OF THIS SEAT. 4 by the template 'for every input the law returns true; each argument reads behind the call as it read before'; 0 by the template 'total and deterministic' (their statements: YtpemohoibeipfaaGreatTotals.lean).
  GIVEN WITH THE SEED: the statements are not yours to turn. If you find one false, say at which input.
  Laid BY PROGRAM, IN A SANDBOX (cutbox-rows.mjs): the forced cells as the released guide's own fill.sh prints them over the translation f11417352bd6ea59… (all of the seat's roots in one cut). By AI agents, Wed Nov 11 2026. No macro, syntax, notation, axiom, sorry.
-/
import Derived.Test.YtpemohoibeipfaaGreatChecked
import GoSem.Claim
import GoSem.ClaimJoined
import GoSem.ClaimMapViews
import Derived.JoinedTies
import Derived.KernelRfl
namespace Go.Proofs.YtpemohoibeipfaaGreat
/- THE CELL 'sum', in the pinned program and in every row, IS THE sha256 OF THE DUMP (.gsa) THAT YtpemohoibeipfaaGreatProg.lean LOADS. Nothing in Lean hashes anything: it is a label: what it is worth is what the hold of that sum in a sandbox is worth. -/
noncomputable def Tryz.pinned : Pinned := { name := "ytpemohoibeipfaagreat", sum := "f11417352bd6ea590bb31e8c90448b9b3da66ca2a241c6bff81db48a5e27c61b", checked := Tryz.checked }
namespace Rows
def none {H : Type} : Left H := { results := [], args := [] }

/-- 'almucantarlaw39.RegionContains': WHATEVER THE INPUT: true; the input reads as it did. -/
def regionContainsSpec : ChangeSpec := { name := "regionContains", fn := fun _ => fun
  | [d1, d2, d3, d4, d5] => { results := [.lit (.bool true)], args := [d1, d2, d3, d4, d5] }
  | _ => none }
def regionContainsRow : OpenClaim := { program := "ytpemohoibeipfaagreat", sum := "f11417352bd6ea590bb31e8c90448b9b3da66ca2a241c6bff81db48a5e27c61b", func := "almucantar/almucantarlaw39.RegionContains", spec := "regionContains", inPlace := ["math/bits.Add64", "math/bits.Sub64"], unfollowed := true, recurses := true, named := ["math/bits.divideError", "math/bits.overflowError"], apart := false }
def RegionContainsSaid : Prop := regionContainsRow.holds Tryz.pinned (OpenSpec.ofChange regionContainsSpec)

/-- ITS FALSE NEIGHBOUR: 'it returns false'. Refute it at one input. -/
def regionContainsWrong : ChangeSpec := { name := "regionContains", fn := fun _ => fun
  | [d1, d2, d3, d4, d5] => { results := [.lit (.bool false)], args := [d1, d2, d3, d4, d5] }
  | _ => none }
def RegionContainsWrongFalsely : Prop := regionContainsRow.holds Tryz.pinned (OpenSpec.ofChange regionContainsWrong)

/-- 'almucantarlaw39.RegionShrinks': WHATEVER THE INPUT: true; the input reads as it did. -/
def regionShrinksSpec : ChangeSpec := { name := "regionShrinks", fn := fun _ => fun
  | [d1, d2, d3, d4, d5] => { results := [.lit (.bool true)], args := [d1, d2, d3, d4, d5] }
  | _ => none }
def regionShrinksRow : OpenClaim := { program := "ytpemohoibeipfaagreat", sum := "f11417352bd6ea590bb31e8c90448b9b3da66ca2a241c6bff81db48a5e27c61b", func := "almucantar/almucantarlaw39.RegionShrinks", spec := "regionShrinks", inPlace := ["math/bits.Add64", "math/bits.Sub64"], unfollowed := true, recurses := true, named := ["math/bits.divideError", "math/bits.overflowError"], apart := false }
def RegionShrinksSaid : Prop := regionShrinksRow.holds Tryz.pinned (OpenSpec.ofChange regionShrinksSpec)

/-- ITS FALSE NEIGHBOUR: 'it returns false'. Refute it at one input. -/
def regionShrinksWrong : ChangeSpec := { name := "regionShrinks", fn := fun _ => fun
  | [d1, d2, d3, d4, d5] => { results := [.lit (.bool false)], args := [d1, d2, d3, d4, d5] }
  | _ => none }
def RegionShrinksWrongFalsely : Prop := regionShrinksRow.holds Tryz.pinned (OpenSpec.ofChange regionShrinksWrong)

/-- 'almucantarlaw39.RegionLevels': WHATEVER THE INPUT: true; the input reads as it did. -/
def regionLevelsSpec : ChangeSpec := { name := "regionLevels", fn := fun _ => fun
  | [d1, d2, d3, d4] => { results := [.lit (.bool true)], args := [d1, d2, d3, d4] }
  | _ => none }
def regionLevelsRow : OpenClaim := { program := "ytpemohoibeipfaagreat", sum := "f11417352bd6ea590bb31e8c90448b9b3da66ca2a241c6bff81db48a5e27c61b", func := "almucantar/almucantarlaw39.RegionLevels", spec := "regionLevels", inPlace := ["math/bits.Add64", "math/bits.Sub64"], unfollowed := true, recurses := true, named := ["math/bits.divideError", "math/bits.overflowError"], apart := false }
def RegionLevelsSaid : Prop := regionLevelsRow.holds Tryz.pinned (OpenSpec.ofChange regionLevelsSpec)

/-- ITS FALSE NEIGHBOUR: 'it returns false'. Refute it at one input. -/
def regionLevelsWrong : ChangeSpec := { name := "regionLevels", fn := fun _ => fun
  | [d1, d2, d3, d4] => { results := [.lit (.bool false)], args := [d1, d2, d3, d4] }
  | _ => none }
def RegionLevelsWrongFalsely : Prop := regionLevelsRow.holds Tryz.pinned (OpenSpec.ofChange regionLevelsWrong)

/-- 'almucantarlaw39.RegionCovers': WHATEVER THE INPUT: true; the input reads as it did. -/
def regionCoversSpec : ChangeSpec := { name := "regionCovers", fn := fun _ => fun
  | [d1, d2, d3] => { results := [.lit (.bool true)], args := [d1, d2, d3] }
  | _ => none }
def regionCoversRow : OpenClaim := { program := "ytpemohoibeipfaagreat", sum := "f11417352bd6ea590bb31e8c90448b9b3da66ca2a241c6bff81db48a5e27c61b", func := "almucantar/almucantarlaw39.RegionCovers", spec := "regionCovers", inPlace := ["math/bits.Add64", "math/bits.Sub64"], unfollowed := true, recurses := true, named := ["math/bits.divideError", "math/bits.overflowError"], apart := false }
def RegionCoversSaid : Prop := regionCoversRow.holds Tryz.pinned (OpenSpec.ofChange regionCoversSpec)

/-- ITS FALSE NEIGHBOUR: 'it returns false'. Refute it at one input. -/
def regionCoversWrong : ChangeSpec := { name := "regionCovers", fn := fun _ => fun
  | [d1, d2, d3] => { results := [.lit (.bool false)], args := [d1, d2, d3] }
  | _ => none }
def RegionCoversWrongFalsely : Prop := regionCoversRow.holds Tryz.pinned (OpenSpec.ofChange regionCoversWrong)

/- THE SECOND FORM. 'bulk': how many values and letters a reading holds, each counted each time it is reached (what is shared counts as often as it is met; a slice's spare places count too). A statement '..UptoSaid' is the law's where the arguments, and the package variables that the reading takes, are together of bulk at most 1048576: NARROWER than '..Said'. Prove '..Said' where nothing that the law and all that it calls make is longer than what came in: it says more and counts as full. Else prove '..UptoSaid'. A law counts once. -/
mutual
def uptoBulk {H : Type} : DataW H → Nat
  | .lit (.string bytes) => bytes.length + 1
  | .lit _ => 1
  | .nil => 1
  | .ptr d => uptoBulk d + 1
  | .slice elems spare => uptoBulkAll elems + uptoBulkAll spare + 1
  | .agg parts => uptoBulkAll parts + 1
  | .iface _ d => uptoBulk d + 1
  | .map entries => uptoBulkEntries entries + 1
  | .held _ => 1
def uptoBulkAll {H : Type} : List (DataW H) → Nat
  | [] => 0
  | d :: r => uptoBulk d + uptoBulkAll r
def uptoBulkEntries {H : Type} : List (Lit × DataW H) → Nat
  | [] => 0
  | x :: r => uptoBulkEntry x + uptoBulkEntries r
def uptoBulkEntry {H : Type} : Lit × DataW H → Nat
  | (.string bytes, d) => bytes.length + uptoBulk d + 1
  | (_, d) => uptoBulk d + 1
 end
def uptoSmall : (H : Type) → List (DataW H) → Bool := fun _ ds => decide (uptoBulkAll ds ≤ 1048576)
def OpenSpec.upto (s : _root_.Go.ChangeSpec) : _root_.Go.OpenSpec := { _root_.Go.OpenSpec.ofChange s with cond := some uptoSmall }

/-- 'almucantarlaw39.RegionContains', WHERE WHAT IT READS IS OF BULK AT MOST 1048576: true; the input reads as it did. -/
def regionContainsUptoRow : OpenClaim := { program := "ytpemohoibeipfaagreat", sum := "f11417352bd6ea590bb31e8c90448b9b3da66ca2a241c6bff81db48a5e27c61b", func := "almucantar/almucantarlaw39.RegionContains", spec := "regionContains", inPlace := ["math/bits.Add64", "math/bits.Sub64"], unfollowed := true, recurses := true, named := ["math/bits.divideError", "math/bits.overflowError"], apart := false, narrowed := true }
def RegionContainsUptoSaid : Prop := regionContainsUptoRow.holds Tryz.pinned (OpenSpec.upto regionContainsSpec)

/-- 'almucantarlaw39.RegionShrinks', WHERE WHAT IT READS IS OF BULK AT MOST 1048576: true; the input reads as it did. -/
def regionShrinksUptoRow : OpenClaim := { program := "ytpemohoibeipfaagreat", sum := "f11417352bd6ea590bb31e8c90448b9b3da66ca2a241c6bff81db48a5e27c61b", func := "almucantar/almucantarlaw39.RegionShrinks", spec := "regionShrinks", inPlace := ["math/bits.Add64", "math/bits.Sub64"], unfollowed := true, recurses := true, named := ["math/bits.divideError", "math/bits.overflowError"], apart := false, narrowed := true }
def RegionShrinksUptoSaid : Prop := regionShrinksUptoRow.holds Tryz.pinned (OpenSpec.upto regionShrinksSpec)

/-- 'almucantarlaw39.RegionLevels', WHERE WHAT IT READS IS OF BULK AT MOST 1048576: true; the input reads as it did. -/
def regionLevelsUptoRow : OpenClaim := { program := "ytpemohoibeipfaagreat", sum := "f11417352bd6ea590bb31e8c90448b9b3da66ca2a241c6bff81db48a5e27c61b", func := "almucantar/almucantarlaw39.RegionLevels", spec := "regionLevels", inPlace := ["math/bits.Add64", "math/bits.Sub64"], unfollowed := true, recurses := true, named := ["math/bits.divideError", "math/bits.overflowError"], apart := false, narrowed := true }
def RegionLevelsUptoSaid : Prop := regionLevelsUptoRow.holds Tryz.pinned (OpenSpec.upto regionLevelsSpec)

/-- 'almucantarlaw39.RegionCovers', WHERE WHAT IT READS IS OF BULK AT MOST 1048576: true; the input reads as it did. -/
def regionCoversUptoRow : OpenClaim := { program := "ytpemohoibeipfaagreat", sum := "f11417352bd6ea590bb31e8c90448b9b3da66ca2a241c6bff81db48a5e27c61b", func := "almucantar/almucantarlaw39.RegionCovers", spec := "regionCovers", inPlace := ["math/bits.Add64", "math/bits.Sub64"], unfollowed := true, recurses := true, named := ["math/bits.divideError", "math/bits.overflowError"], apart := false, narrowed := true }
def RegionCoversUptoSaid : Prop := regionCoversUptoRow.holds Tryz.pinned (OpenSpec.upto regionCoversSpec)

end Rows
end Go.Proofs.YtpemohoibeipfaaGreat
