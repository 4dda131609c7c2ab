/-
  No cell of these rows narrows 'for every input' (looked for: loops, veiled, ifaces, maps, wideKeys, modest, calm, conditions, laid).
  DERIVED. THE GIVEN ROWS OF THIS SEAT. 4 by the template 'for every input the law returns true; each argument reads behind the call as it read before'; 0 by the template 'total and deterministic' (their statements: YtlhdneeiikemjaaGreatTotals.lean).
  GIVEN WITH THE SEED: the statements are not yours to turn. If you find one false, say at which input.
  Laid BY PROGRAM, IN A SANDBOX (cutbox-rows.mjs): the forced cells as the released guide's own fill.sh prints them over the translation 5efb470ed92dfd8f… (all of the seat's roots in one cut). By AI agents, Wed Nov 11 2026. No macro, syntax, notation, axiom, sorry.
-/
import Derived.Test.YtlhdneeiikemjaaGreatChecked
import GoSem.Claim
import GoSem.ClaimJoined
import GoSem.ClaimMapViews
import Derived.JoinedTies
import Derived.KernelRfl
namespace Go.Proofs.YtlhdneeiikemjaaGreat
/- THE CELL 'sum', in the pinned program and in every row, IS THE sha256 OF THE DUMP (.gsa) THAT YtlhdneeiikemjaaGreatProg.lean LOADS. Nothing in Lean hashes anything: it is a label: what it is worth is what the hold of that sum in a sandbox is worth. -/
noncomputable def Tryz.pinned : Pinned := { name := "ytlhdneeiikemjaagreat", sum := "5efb470ed92dfd8f419c458e10def28f51f7ba2b68781620eecc7677aa645715", checked := Tryz.checked }
namespace Rows
def none {H : Type} : Left H := { results := [], args := [] }

/-- 'almucantarlaw38.CellsAreas': WHATEVER THE INPUT: true; the input reads as it did. -/
def cellsAreasSpec : ChangeSpec := { name := "cellsAreas", fn := fun _ => fun
  | [d1, d2] => { results := [.lit (.bool true)], args := [d1, d2] }
  | _ => none }
def cellsAreasRow : OpenClaim := { program := "ytlhdneeiikemjaagreat", sum := "5efb470ed92dfd8f419c458e10def28f51f7ba2b68781620eecc7677aa645715", func := "almucantar/almucantarlaw38.CellsAreas", spec := "cellsAreas", inPlace := ["math/bits.Add64", "math/bits.Sub64"], unfollowed := true, recurses := true, named := ["math/bits.divideError", "math/bits.overflowError"], apart := false }
def CellsAreasSaid : Prop := cellsAreasRow.holds Tryz.pinned (OpenSpec.ofChange cellsAreasSpec)

/-- ITS FALSE NEIGHBOUR: 'it returns false'. Refute it at one input. -/
def cellsAreasWrong : ChangeSpec := { name := "cellsAreas", fn := fun _ => fun
  | [d1, d2] => { results := [.lit (.bool false)], args := [d1, d2] }
  | _ => none }
def CellsAreasWrongFalsely : Prop := cellsAreasRow.holds Tryz.pinned (OpenSpec.ofChange cellsAreasWrong)

/-- 'almucantarlaw38.CellsArea': WHATEVER THE INPUT: true; the input reads as it did. -/
def cellsAreaSpec : ChangeSpec := { name := "cellsArea", fn := fun _ => fun
  | [d1, d2] => { results := [.lit (.bool true)], args := [d1, d2] }
  | _ => none }
def cellsAreaRow : OpenClaim := { program := "ytlhdneeiikemjaagreat", sum := "5efb470ed92dfd8f419c458e10def28f51f7ba2b68781620eecc7677aa645715", func := "almucantar/almucantarlaw38.CellsArea", spec := "cellsArea", inPlace := ["math/bits.Add64", "math/bits.Sub64"], unfollowed := true, recurses := true, named := ["math/bits.divideError", "math/bits.overflowError"], apart := false }
def CellsAreaSaid : Prop := cellsAreaRow.holds Tryz.pinned (OpenSpec.ofChange cellsAreaSpec)

/-- ITS FALSE NEIGHBOUR: 'it returns false'. Refute it at one input. -/
def cellsAreaWrong : ChangeSpec := { name := "cellsArea", fn := fun _ => fun
  | [d1, d2] => { results := [.lit (.bool false)], args := [d1, d2] }
  | _ => none }
def CellsAreaWrongFalsely : Prop := cellsAreaRow.holds Tryz.pinned (OpenSpec.ofChange cellsAreaWrong)

/-- 'almucantarlaw47.AdvanceCells': WHATEVER THE INPUT: true; the input reads as it did. -/
def advanceCellsSpec : ChangeSpec := { name := "advanceCells", fn := fun _ => fun
  | [d1, d2, d3] => { results := [.lit (.bool true)], args := [d1, d2, d3] }
  | _ => none }
def advanceCellsRow : OpenClaim := { program := "ytlhdneeiikemjaagreat", sum := "5efb470ed92dfd8f419c458e10def28f51f7ba2b68781620eecc7677aa645715", func := "almucantar/almucantarlaw47.AdvanceCells", spec := "advanceCells", inPlace := ["math/bits.Add64", "math/bits.Sub64"], unfollowed := true, recurses := true, named := ["math/bits.divideError", "math/bits.overflowError"], apart := false }
def AdvanceCellsSaid : Prop := advanceCellsRow.holds Tryz.pinned (OpenSpec.ofChange advanceCellsSpec)

/-- ITS FALSE NEIGHBOUR: 'it returns false'. Refute it at one input. -/
def advanceCellsWrong : ChangeSpec := { name := "advanceCells", fn := fun _ => fun
  | [d1, d2, d3] => { results := [.lit (.bool false)], args := [d1, d2, d3] }
  | _ => none }
def AdvanceCellsWrongFalsely : Prop := advanceCellsRow.holds Tryz.pinned (OpenSpec.ofChange advanceCellsWrong)

/-- 'almucantarlaw52.ChooseForms': WHATEVER THE INPUT: true; the input reads as it did. -/
def chooseFormsSpec : ChangeSpec := { name := "chooseForms", fn := fun _ => fun
  | [d1, d2, d3, d4] => { results := [.lit (.bool true)], args := [d1, d2, d3, d4] }
  | _ => none }
def chooseFormsRow : OpenClaim := { program := "ytlhdneeiikemjaagreat", sum := "5efb470ed92dfd8f419c458e10def28f51f7ba2b68781620eecc7677aa645715", func := "almucantar/almucantarlaw52.ChooseForms", spec := "chooseForms", inPlace := ["math/bits.Add64", "math/bits.Sub64"], unfollowed := true, recurses := true, named := ["math/bits.divideError", "math/bits.overflowError"], apart := false }
def ChooseFormsSaid : Prop := chooseFormsRow.holds Tryz.pinned (OpenSpec.ofChange chooseFormsSpec)

/-- ITS FALSE NEIGHBOUR: 'it returns false'. Refute it at one input. -/
def chooseFormsWrong : ChangeSpec := { name := "chooseForms", fn := fun _ => fun
  | [d1, d2, d3, d4] => { results := [.lit (.bool false)], args := [d1, d2, d3, d4] }
  | _ => none }
def ChooseFormsWrongFalsely : Prop := chooseFormsRow.holds Tryz.pinned (OpenSpec.ofChange chooseFormsWrong)

/- THE SECOND FORM. 'bulk': how many values and letters a reading holds, each counted each time it is reached (what is shared counts as often as it is met; a slice's spare places count too). A statement '..UptoSaid' is the law's where the arguments, and the package variables that the reading takes, are together of bulk at most 1048576: NARROWER than '..Said'. Prove '..Said' where nothing that the law and all that it calls make is longer than what came in: it says more and counts as full. Else prove '..UptoSaid'. A law counts once. -/
mutual
def uptoBulk {H : Type} : DataW H → Nat
  | .lit (.string bytes) => bytes.length + 1
  | .lit _ => 1
  | .nil => 1
  | .ptr d => uptoBulk d + 1
  | .slice elems spare => uptoBulkAll elems + uptoBulkAll spare + 1
  | .agg parts => uptoBulkAll parts + 1
  | .iface _ d => uptoBulk d + 1
  | .map entries => uptoBulkEntries entries + 1
  | .held _ => 1
def uptoBulkAll {H : Type} : List (DataW H) → Nat
  | [] => 0
  | d :: r => uptoBulk d + uptoBulkAll r
def uptoBulkEntries {H : Type} : List (Lit × DataW H) → Nat
  | [] => 0
  | x :: r => uptoBulkEntry x + uptoBulkEntries r
def uptoBulkEntry {H : Type} : Lit × DataW H → Nat
  | (.string bytes, d) => bytes.length + uptoBulk d + 1
  | (_, d) => uptoBulk d + 1
 end
def uptoSmall : (H : Type) → List (DataW H) → Bool := fun _ ds => decide (uptoBulkAll ds ≤ 1048576)
def OpenSpec.upto (s : _root_.Go.ChangeSpec) : _root_.Go.OpenSpec := { _root_.Go.OpenSpec.ofChange s with cond := some uptoSmall }

/-- 'almucantarlaw38.CellsAreas', WHERE WHAT IT READS IS OF BULK AT MOST 1048576: true; the input reads as it did. -/
def cellsAreasUptoRow : OpenClaim := { program := "ytlhdneeiikemjaagreat", sum := "5efb470ed92dfd8f419c458e10def28f51f7ba2b68781620eecc7677aa645715", func := "almucantar/almucantarlaw38.CellsAreas", spec := "cellsAreas", inPlace := ["math/bits.Add64", "math/bits.Sub64"], unfollowed := true, recurses := true, named := ["math/bits.divideError", "math/bits.overflowError"], apart := false, narrowed := true }
def CellsAreasUptoSaid : Prop := cellsAreasUptoRow.holds Tryz.pinned (OpenSpec.upto cellsAreasSpec)

/-- 'almucantarlaw38.CellsArea', WHERE WHAT IT READS IS OF BULK AT MOST 1048576: true; the input reads as it did. -/
def cellsAreaUptoRow : OpenClaim := { program := "ytlhdneeiikemjaagreat", sum := "5efb470ed92dfd8f419c458e10def28f51f7ba2b68781620eecc7677aa645715", func := "almucantar/almucantarlaw38.CellsArea", spec := "cellsArea", inPlace := ["math/bits.Add64", "math/bits.Sub64"], unfollowed := true, recurses := true, named := ["math/bits.divideError", "math/bits.overflowError"], apart := false, narrowed := true }
def CellsAreaUptoSaid : Prop := cellsAreaUptoRow.holds Tryz.pinned (OpenSpec.upto cellsAreaSpec)

/-- 'almucantarlaw47.AdvanceCells', WHERE WHAT IT READS IS OF BULK AT MOST 1048576: true; the input reads as it did. -/
def advanceCellsUptoRow : OpenClaim := { program := "ytlhdneeiikemjaagreat", sum := "5efb470ed92dfd8f419c458e10def28f51f7ba2b68781620eecc7677aa645715", func := "almucantar/almucantarlaw47.AdvanceCells", spec := "advanceCells", inPlace := ["math/bits.Add64", "math/bits.Sub64"], unfollowed := true, recurses := true, named := ["math/bits.divideError", "math/bits.overflowError"], apart := false, narrowed := true }
def AdvanceCellsUptoSaid : Prop := advanceCellsUptoRow.holds Tryz.pinned (OpenSpec.upto advanceCellsSpec)

/-- 'almucantarlaw52.ChooseForms', WHERE WHAT IT READS IS OF BULK AT MOST 1048576: true; the input reads as it did. -/
def chooseFormsUptoRow : OpenClaim := { program := "ytlhdneeiikemjaagreat", sum := "5efb470ed92dfd8f419c458e10def28f51f7ba2b68781620eecc7677aa645715", func := "almucantar/almucantarlaw52.ChooseForms", spec := "chooseForms", inPlace := ["math/bits.Add64", "math/bits.Sub64"], unfollowed := true, recurses := true, named := ["math/bits.divideError", "math/bits.overflowError"], apart := false, narrowed := true }
def ChooseFormsUptoSaid : Prop := chooseFormsUptoRow.holds Tryz.pinned (OpenSpec.upto chooseFormsSpec)

end Rows
end Go.Proofs.YtlhdneeiikemjaaGreat
