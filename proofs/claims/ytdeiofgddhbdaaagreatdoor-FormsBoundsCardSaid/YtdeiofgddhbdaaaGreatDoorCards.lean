/-
  DERIVED. GIVEN WITH THE SEED: THE CARDS: each row of YtdeiofgddhbdaaaGreatDoorRows.lean that lists a variable, with what it lists TIED to the program's text (the seventh form; the later family's looks); each row that meets fmt, with fmt's text TOLD by the authors' own Lean function (tested against real Go, not proved from fmt's source: count such statements apart). THE CARD IS WHAT COUNTS. Prove the row's statement (the work); the ties are given (YtdeiofgddhbdaaaGreatDoorTie.lean); close each card by the builder's one call (the guide's Derived/Test/ToyasCard.lean, 'card_holds'). Laid BY PROGRAM, IN A SANDBOX (cutbox-door.mjs). By AI agents, Wed Nov 11 2026. No macro, syntax, notation, axiom, sorry.
-/
import Derived.Test.YtdeiofgddhbdaaaGreatDoorRows
import GoSem.ClaimSeven
namespace Go.Proofs.YtdeiofgddhbdaaaGreatDoor
namespace Rows

/-- THE TIED CARD OF 'almucantarlaw55.FormsFixes'. -/
def formsFixesCard : Claim7 := { stood := { row := formsFixesRow, standIns := [], harness := (true, "8e62f3ece123f14e786873a47a35f1d6e083cd73d9b1f66bb1b0a8be9e9cada5"), looks := false }, kinds := [], alts := [], laidByText := true, laidKinds := [.data, .data, .data], laidTests := true, laidLooks := .later }
def FormsFixesCardSaid : Prop := Claim7.holds Tryz.pinned (.plain (OpenSpec.ofChange formsFixesSpec)) formsFixesCard

/-- THE TIED CARD OF 'almucantarlaw55.FormsReads'. -/
def formsReadsCard : Claim7 := { stood := { row := formsReadsRow, standIns := [], harness := (true, "8e62f3ece123f14e786873a47a35f1d6e083cd73d9b1f66bb1b0a8be9e9cada5"), looks := false }, kinds := [], alts := [], laidByText := true, laidKinds := [.data, .data, .data], laidTests := true, laidLooks := .later }
def FormsReadsCardSaid : Prop := Claim7.holds Tryz.pinned (.plain (OpenSpec.ofChange formsReadsSpec)) formsReadsCard

/-- THE TIED CARD OF 'almucantarlaw55.FormsRounds'. -/
def formsRoundsCard : Claim7 := { stood := { row := formsRoundsRow, standIns := [], harness := (true, "8e62f3ece123f14e786873a47a35f1d6e083cd73d9b1f66bb1b0a8be9e9cada5"), looks := false }, kinds := [], alts := [], laidByText := true, laidKinds := [.data, .data, .data], laidTests := true, laidLooks := .later }
def FormsRoundsCardSaid : Prop := Claim7.holds Tryz.pinned (.plain (OpenSpec.ofChange formsRoundsSpec)) formsRoundsCard

/-- THE TIED CARD OF 'almucantarlaw55.FormsBounds'. -/
def formsBoundsCard : Claim7 := { stood := { row := formsBoundsRow, standIns := [], harness := (true, "8e62f3ece123f14e786873a47a35f1d6e083cd73d9b1f66bb1b0a8be9e9cada5"), looks := false }, kinds := [], alts := [], laidByText := true, laidKinds := [.data, .data, .data], laidTests := true, laidLooks := .later }
def FormsBoundsCardSaid : Prop := Claim7.holds Tryz.pinned (.plain (OpenSpec.ofChange formsBoundsSpec)) formsBoundsCard

/-- THE SECOND FORM's CARD OF 'almucantarlaw55.FormsFixes'. -/
def formsFixesUptoCard : Claim7 := { stood := { row := formsFixesUptoRow, standIns := [], harness := (true, "8e62f3ece123f14e786873a47a35f1d6e083cd73d9b1f66bb1b0a8be9e9cada5"), looks := false }, kinds := [], alts := [], laidByText := true, laidKinds := [.data, .data, .data], laidTests := true, laidLooks := .later }
def FormsFixesUptoCardSaid : Prop := Claim7.holds Tryz.pinned (.plain (OpenSpec.upto formsFixesSpec)) formsFixesUptoCard

/-- THE SECOND FORM's CARD OF 'almucantarlaw55.FormsReads'. -/
def formsReadsUptoCard : Claim7 := { stood := { row := formsReadsUptoRow, standIns := [], harness := (true, "8e62f3ece123f14e786873a47a35f1d6e083cd73d9b1f66bb1b0a8be9e9cada5"), looks := false }, kinds := [], alts := [], laidByText := true, laidKinds := [.data, .data, .data], laidTests := true, laidLooks := .later }
def FormsReadsUptoCardSaid : Prop := Claim7.holds Tryz.pinned (.plain (OpenSpec.upto formsReadsSpec)) formsReadsUptoCard

/-- THE SECOND FORM's CARD OF 'almucantarlaw55.FormsRounds'. -/
def formsRoundsUptoCard : Claim7 := { stood := { row := formsRoundsUptoRow, standIns := [], harness := (true, "8e62f3ece123f14e786873a47a35f1d6e083cd73d9b1f66bb1b0a8be9e9cada5"), looks := false }, kinds := [], alts := [], laidByText := true, laidKinds := [.data, .data, .data], laidTests := true, laidLooks := .later }
def FormsRoundsUptoCardSaid : Prop := Claim7.holds Tryz.pinned (.plain (OpenSpec.upto formsRoundsSpec)) formsRoundsUptoCard

/-- THE SECOND FORM's CARD OF 'almucantarlaw55.FormsBounds'. -/
def formsBoundsUptoCard : Claim7 := { stood := { row := formsBoundsUptoRow, standIns := [], harness := (true, "8e62f3ece123f14e786873a47a35f1d6e083cd73d9b1f66bb1b0a8be9e9cada5"), looks := false }, kinds := [], alts := [], laidByText := true, laidKinds := [.data, .data, .data], laidTests := true, laidLooks := .later }
def FormsBoundsUptoCardSaid : Prop := Claim7.holds Tryz.pinned (.plain (OpenSpec.upto formsBoundsSpec)) formsBoundsUptoCard
end Rows
end Go.Proofs.YtdeiofgddhbdaaaGreatDoor
