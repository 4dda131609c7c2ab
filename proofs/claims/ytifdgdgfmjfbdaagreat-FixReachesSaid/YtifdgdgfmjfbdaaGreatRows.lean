/-
  No cell of these rows narrows 'for every input' (looked for: loops, veiled, ifaces, maps, wideKeys, modest, calm, conditions, laid).
  DERIVED. THE GIVEN ROWS OF THIS SEAT. 5 by the template 'for every input the law returns true; each argument reads behind the call as it read before'; 0 by the template 'total and deterministic' (their statements: YtifdgdgfmjfbdaaGreatTotals.lean).
  GIVEN WITH THE SEED: the statements are not yours to turn. If you find one false, say at which input.
  Laid BY PROGRAM, IN A SANDBOX (cutbox-rows.mjs): the forced cells as the released guide's own fill.sh prints them over the translation c4c52c4e21b0829f… (all of the seat's roots in one cut). By AI agents, Wed Nov 11 2026. No macro, syntax, notation, axiom, sorry.
-/
import Derived.Test.YtifdgdgfmjfbdaaGreatChecked
import GoSem.Claim
import GoSem.ClaimJoined
import GoSem.ClaimMapViews
import Derived.JoinedTies
import Derived.KernelRfl
namespace Go.Proofs.YtifdgdgfmjfbdaaGreat
/- THE CELL 'sum', in the pinned program and in every row, IS THE sha256 OF THE DUMP (.gsa) THAT YtifdgdgfmjfbdaaGreatProg.lean LOADS. Nothing in Lean hashes anything: it is a label: what it is worth is what the hold of that sum in a sandbox is worth. -/
noncomputable def Tryz.pinned : Pinned := { name := "ytifdgdgfmjfbdaagreat", sum := "c4c52c4e21b0829fe3cc053c7098e0e449d07a10f96c9d0ab53f7a75f57f8d38", checked := Tryz.checked }
namespace Rows
def none {H : Type} : Left H := { results := [], args := [] }

/-- 'almucantarlaw52.ChooseThrough': WHATEVER THE INPUT: true; the input reads as it did. -/
def chooseThroughSpec : ChangeSpec := { name := "chooseThrough", fn := fun _ => fun
  | [d1, d2, d3, d4] => { results := [.lit (.bool true)], args := [d1, d2, d3, d4] }
  | _ => none }
def chooseThroughRow : OpenClaim := { program := "ytifdgdgfmjfbdaagreat", sum := "c4c52c4e21b0829fe3cc053c7098e0e449d07a10f96c9d0ab53f7a75f57f8d38", func := "almucantar/almucantarlaw52.ChooseThrough", spec := "chooseThrough", inPlace := ["math/bits.Add64", "math/bits.Sub64"], unfollowed := true, recurses := true, named := ["math/bits.divideError", "math/bits.overflowError"], apart := false }
def ChooseThroughSaid : Prop := chooseThroughRow.holds Tryz.pinned (OpenSpec.ofChange chooseThroughSpec)

/-- ITS FALSE NEIGHBOUR: 'it returns false'. Refute it at one input. -/
def chooseThroughWrong : ChangeSpec := { name := "chooseThrough", fn := fun _ => fun
  | [d1, d2, d3, d4] => { results := [.lit (.bool false)], args := [d1, d2, d3, d4] }
  | _ => none }
def ChooseThroughWrongFalsely : Prop := chooseThroughRow.holds Tryz.pinned (OpenSpec.ofChange chooseThroughWrong)

/-- 'almucantarlaw52.ChooseSizes': WHATEVER THE INPUT: true; the input reads as it did. -/
def chooseSizesSpec : ChangeSpec := { name := "chooseSizes", fn := fun _ => fun
  | [d1, d2, d3, d4] => { results := [.lit (.bool true)], args := [d1, d2, d3, d4] }
  | _ => none }
def chooseSizesRow : OpenClaim := { program := "ytifdgdgfmjfbdaagreat", sum := "c4c52c4e21b0829fe3cc053c7098e0e449d07a10f96c9d0ab53f7a75f57f8d38", func := "almucantar/almucantarlaw52.ChooseSizes", spec := "chooseSizes", inPlace := ["math/bits.Add64", "math/bits.Sub64"], unfollowed := true, recurses := true, named := ["math/bits.divideError", "math/bits.overflowError"], apart := false }
def ChooseSizesSaid : Prop := chooseSizesRow.holds Tryz.pinned (OpenSpec.ofChange chooseSizesSpec)

/-- ITS FALSE NEIGHBOUR: 'it returns false'. Refute it at one input. -/
def chooseSizesWrong : ChangeSpec := { name := "chooseSizes", fn := fun _ => fun
  | [d1, d2, d3, d4] => { results := [.lit (.bool false)], args := [d1, d2, d3, d4] }
  | _ => none }
def ChooseSizesWrongFalsely : Prop := chooseSizesRow.holds Tryz.pinned (OpenSpec.ofChange chooseSizesWrong)

/-- 'almucantarlaw52.ChooseForms': WHATEVER THE INPUT: true; the input reads as it did. -/
def chooseFormsSpec : ChangeSpec := { name := "chooseForms", fn := fun _ => fun
  | [d1, d2, d3, d4] => { results := [.lit (.bool true)], args := [d1, d2, d3, d4] }
  | _ => none }
def chooseFormsRow : OpenClaim := { program := "ytifdgdgfmjfbdaagreat", sum := "c4c52c4e21b0829fe3cc053c7098e0e449d07a10f96c9d0ab53f7a75f57f8d38", func := "almucantar/almucantarlaw52.ChooseForms", spec := "chooseForms", inPlace := ["math/bits.Add64", "math/bits.Sub64"], unfollowed := true, recurses := true, named := ["math/bits.divideError", "math/bits.overflowError"], apart := false }
def ChooseFormsSaid : Prop := chooseFormsRow.holds Tryz.pinned (OpenSpec.ofChange chooseFormsSpec)

/-- ITS FALSE NEIGHBOUR: 'it returns false'. Refute it at one input. -/
def chooseFormsWrong : ChangeSpec := { name := "chooseForms", fn := fun _ => fun
  | [d1, d2, d3, d4] => { results := [.lit (.bool false)], args := [d1, d2, d3, d4] }
  | _ => none }
def ChooseFormsWrongFalsely : Prop := chooseFormsRow.holds Tryz.pinned (OpenSpec.ofChange chooseFormsWrong)

/-- 'almucantarlaw40.FixReaches': WHATEVER THE INPUT: true; the input reads as it did. -/
def fixReachesSpec : ChangeSpec := { name := "fixReaches", fn := fun _ => fun
  | [d1, d2, d3] => { results := [.lit (.bool true)], args := [d1, d2, d3] }
  | _ => none }
def fixReachesRow : OpenClaim := { program := "ytifdgdgfmjfbdaagreat", sum := "c4c52c4e21b0829fe3cc053c7098e0e449d07a10f96c9d0ab53f7a75f57f8d38", func := "almucantar/almucantarlaw40.FixReaches", spec := "fixReaches", inPlace := ["math/bits.Add64", "math/bits.Sub64"], unfollowed := true, recurses := true, named := ["math/bits.divideError", "math/bits.overflowError"], apart := false }
def FixReachesSaid : Prop := fixReachesRow.holds Tryz.pinned (OpenSpec.ofChange fixReachesSpec)

/-- ITS FALSE NEIGHBOUR: 'it returns false'. Refute it at one input. -/
def fixReachesWrong : ChangeSpec := { name := "fixReaches", fn := fun _ => fun
  | [d1, d2, d3] => { results := [.lit (.bool false)], args := [d1, d2, d3] }
  | _ => none }
def FixReachesWrongFalsely : Prop := fixReachesRow.holds Tryz.pinned (OpenSpec.ofChange fixReachesWrong)

/-- 'almucantarlaw39.RegionContains': WHATEVER THE INPUT: true; the input reads as it did. -/
def regionContainsSpec : ChangeSpec := { name := "regionContains", fn := fun _ => fun
  | [d1, d2, d3, d4, d5] => { results := [.lit (.bool true)], args := [d1, d2, d3, d4, d5] }
  | _ => none }
def regionContainsRow : OpenClaim := { program := "ytifdgdgfmjfbdaagreat", sum := "c4c52c4e21b0829fe3cc053c7098e0e449d07a10f96c9d0ab53f7a75f57f8d38", func := "almucantar/almucantarlaw39.RegionContains", spec := "regionContains", inPlace := ["math/bits.Add64", "math/bits.Sub64"], unfollowed := true, recurses := true, named := ["math/bits.divideError", "math/bits.overflowError"], apart := false }
def RegionContainsSaid : Prop := regionContainsRow.holds Tryz.pinned (OpenSpec.ofChange regionContainsSpec)

/-- ITS FALSE NEIGHBOUR: 'it returns false'. Refute it at one input. -/
def regionContainsWrong : ChangeSpec := { name := "regionContains", fn := fun _ => fun
  | [d1, d2, d3, d4, d5] => { results := [.lit (.bool false)], args := [d1, d2, d3, d4, d5] }
  | _ => none }
def RegionContainsWrongFalsely : Prop := regionContainsRow.holds Tryz.pinned (OpenSpec.ofChange regionContainsWrong)

/- THE SECOND FORM. 'bulk': how many values and letters a reading holds, each counted each time it is reached (what is shared counts as often as it is met; a slice's spare places count too). A statement '..UptoSaid' is the law's where the arguments, and the package variables that the reading takes, are together of bulk at most 1048576: NARROWER than '..Said'. Prove '..Said' where nothing that the law and all that it calls make is longer than what came in: it says more and counts as full. Else prove '..UptoSaid'. A law counts once. -/
mutual
def uptoBulk {H : Type} : DataW H → Nat
  | .lit (.string bytes) => bytes.length + 1
  | .lit _ => 1
  | .nil => 1
  | .ptr d => uptoBulk d + 1
  | .slice elems spare => uptoBulkAll elems + uptoBulkAll spare + 1
  | .agg parts => uptoBulkAll parts + 1
  | .iface _ d => uptoBulk d + 1
  | .map entries => uptoBulkEntries entries + 1
  | .held _ => 1
def uptoBulkAll {H : Type} : List (DataW H) → Nat
  | [] => 0
  | d :: r => uptoBulk d + uptoBulkAll r
def uptoBulkEntries {H : Type} : List (Lit × DataW H) → Nat
  | [] => 0
  | x :: r => uptoBulkEntry x + uptoBulkEntries r
def uptoBulkEntry {H : Type} : Lit × DataW H → Nat
  | (.string bytes, d) => bytes.length + uptoBulk d + 1
  | (_, d) => uptoBulk d + 1
 end
def uptoSmall : (H : Type) → List (DataW H) → Bool := fun _ ds => decide (uptoBulkAll ds ≤ 1048576)
def OpenSpec.upto (s : _root_.Go.ChangeSpec) : _root_.Go.OpenSpec := { _root_.Go.OpenSpec.ofChange s with cond := some uptoSmall }

/-- 'almucantarlaw52.ChooseThrough', WHERE WHAT IT READS IS OF BULK AT MOST 1048576: true; the input reads as it did. -/
def chooseThroughUptoRow : OpenClaim := { program := "ytifdgdgfmjfbdaagreat", sum := "c4c52c4e21b0829fe3cc053c7098e0e449d07a10f96c9d0ab53f7a75f57f8d38", func := "almucantar/almucantarlaw52.ChooseThrough", spec := "chooseThrough", inPlace := ["math/bits.Add64", "math/bits.Sub64"], unfollowed := true, recurses := true, named := ["math/bits.divideError", "math/bits.overflowError"], apart := false, narrowed := true }
def ChooseThroughUptoSaid : Prop := chooseThroughUptoRow.holds Tryz.pinned (OpenSpec.upto chooseThroughSpec)

/-- 'almucantarlaw52.ChooseSizes', WHERE WHAT IT READS IS OF BULK AT MOST 1048576: true; the input reads as it did. -/
def chooseSizesUptoRow : OpenClaim := { program := "ytifdgdgfmjfbdaagreat", sum := "c4c52c4e21b0829fe3cc053c7098e0e449d07a10f96c9d0ab53f7a75f57f8d38", func := "almucantar/almucantarlaw52.ChooseSizes", spec := "chooseSizes", inPlace := ["math/bits.Add64", "math/bits.Sub64"], unfollowed := true, recurses := true, named := ["math/bits.divideError", "math/bits.overflowError"], apart := false, narrowed := true }
def ChooseSizesUptoSaid : Prop := chooseSizesUptoRow.holds Tryz.pinned (OpenSpec.upto chooseSizesSpec)

/-- 'almucantarlaw52.ChooseForms', WHERE WHAT IT READS IS OF BULK AT MOST 1048576: true; the input reads as it did. -/
def chooseFormsUptoRow : OpenClaim := { program := "ytifdgdgfmjfbdaagreat", sum := "c4c52c4e21b0829fe3cc053c7098e0e449d07a10f96c9d0ab53f7a75f57f8d38", func := "almucantar/almucantarlaw52.ChooseForms", spec := "chooseForms", inPlace := ["math/bits.Add64", "math/bits.Sub64"], unfollowed := true, recurses := true, named := ["math/bits.divideError", "math/bits.overflowError"], apart := false, narrowed := true }
def ChooseFormsUptoSaid : Prop := chooseFormsUptoRow.holds Tryz.pinned (OpenSpec.upto chooseFormsSpec)

/-- 'almucantarlaw40.FixReaches', WHERE WHAT IT READS IS OF BULK AT MOST 1048576: true; the input reads as it did. -/
def fixReachesUptoRow : OpenClaim := { program := "ytifdgdgfmjfbdaagreat", sum := "c4c52c4e21b0829fe3cc053c7098e0e449d07a10f96c9d0ab53f7a75f57f8d38", func := "almucantar/almucantarlaw40.FixReaches", spec := "fixReaches", inPlace := ["math/bits.Add64", "math/bits.Sub64"], unfollowed := true, recurses := true, named := ["math/bits.divideError", "math/bits.overflowError"], apart := false, narrowed := true }
def FixReachesUptoSaid : Prop := fixReachesUptoRow.holds Tryz.pinned (OpenSpec.upto fixReachesSpec)

/-- 'almucantarlaw39.RegionContains', WHERE WHAT IT READS IS OF BULK AT MOST 1048576: true; the input reads as it did. -/
def regionContainsUptoRow : OpenClaim := { program := "ytifdgdgfmjfbdaagreat", sum := "c4c52c4e21b0829fe3cc053c7098e0e449d07a10f96c9d0ab53f7a75f57f8d38", func := "almucantar/almucantarlaw39.RegionContains", spec := "regionContains", inPlace := ["math/bits.Add64", "math/bits.Sub64"], unfollowed := true, recurses := true, named := ["math/bits.divideError", "math/bits.overflowError"], apart := false, narrowed := true }
def RegionContainsUptoSaid : Prop := regionContainsUptoRow.holds Tryz.pinned (OpenSpec.upto regionContainsSpec)

end Rows
end Go.Proofs.YtifdgdgfmjfbdaaGreat
