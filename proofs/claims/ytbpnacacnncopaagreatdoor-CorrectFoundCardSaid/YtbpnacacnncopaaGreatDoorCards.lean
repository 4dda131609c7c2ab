/-
  DERIVED. GIVEN WITH THE SEED: THE CARDS: each row of YtbpnacacnncopaaGreatDoorRows.lean that lists a variable, with what it lists TIED to the program's text (the seventh form; the later family's looks); each row that meets fmt, with fmt's text TOLD by the authors' own Lean function (tested against real Go, not proved from fmt's source: count such statements apart). THE CARD IS WHAT COUNTS. Prove the row's statement (the work); the ties are given (YtbpnacacnncopaaGreatDoorTie.lean); close each card by the builder's one call (the guide's Derived/Test/ToyasCard.lean, 'card_holds'). Laid BY PROGRAM, IN A SANDBOX (cutbox-door.mjs). By AI agents, Wed Nov 11 2026. No macro, syntax, notation, axiom, sorry.
-/
import Derived.Test.YtbpnacacnncopaaGreatDoorRows
import GoSem.ClaimSeven
namespace Go.Proofs.YtbpnacacnncopaaGreatDoor
namespace Rows

/-- THE TIED CARD OF 'almucantarlaw22.CorrectTexts'. -/
def correctTextsCard : Claim7 := { stood := { row := correctTextsRow, standIns := [], harness := (true, "1aace01c6822298e8bfd3c9ee12696c1fde97e9ab4a69e04604a9748f0a0558c"), looks := true }, kinds := [], alts := [], laidByText := true, laidKinds := [.data, .data, .data, .data, .sentinel, .sentinel, .pinned], laidTests := true, laidLooks := .later }
def CorrectTextsCardSaid : Prop := Claim7.holds Tryz.pinned (.plain (OpenSpec.ofChange correctTextsSpec)) correctTextsCard

/-- THE TIED CARD OF 'almucantarlaw22.CorrectBack'. -/
def correctBackCard : Claim7 := { stood := { row := correctBackRow, standIns := [], harness := (true, "1aace01c6822298e8bfd3c9ee12696c1fde97e9ab4a69e04604a9748f0a0558c"), looks := true }, kinds := [], alts := [], laidByText := true, laidKinds := [.data, .data, .data, .data, .sentinel, .sentinel, .pinned], laidTests := true, laidLooks := .later }
def CorrectBackCardSaid : Prop := Claim7.holds Tryz.pinned (.plain (OpenSpec.ofChange correctBackSpec)) correctBackCard

/-- THE TIED CARD OF 'almucantarlaw22.CorrectLimbs'. -/
def correctLimbsCard : Claim7 := { stood := { row := correctLimbsRow, standIns := [], harness := (true, "1aace01c6822298e8bfd3c9ee12696c1fde97e9ab4a69e04604a9748f0a0558c"), looks := true }, kinds := [], alts := [], laidByText := true, laidKinds := [.data, .data, .data, .data, .sentinel, .sentinel, .pinned], laidTests := true, laidLooks := .later }
def CorrectLimbsCardSaid : Prop := Claim7.holds Tryz.pinned (.plain (OpenSpec.ofChange correctLimbsSpec)) correctLimbsCard

/-- THE TIED CARD OF 'almucantarlaw22.CorrectFound'. -/
def correctFoundCard : Claim7 := { stood := { row := correctFoundRow, standIns := [], harness := (true, "1aace01c6822298e8bfd3c9ee12696c1fde97e9ab4a69e04604a9748f0a0558c"), looks := true }, kinds := [], alts := [], laidByText := true, laidKinds := [.data, .data, .data, .data, .sentinel, .sentinel, .pinned], laidTests := true, laidLooks := .later }
def CorrectFoundCardSaid : Prop := Claim7.holds Tryz.pinned (.plain (OpenSpec.ofChange correctFoundSpec)) correctFoundCard

/-- THE SECOND FORM's CARD OF 'almucantarlaw22.CorrectTexts'. -/
def correctTextsUptoCard : Claim7 := { stood := { row := correctTextsUptoRow, standIns := [], harness := (true, "1aace01c6822298e8bfd3c9ee12696c1fde97e9ab4a69e04604a9748f0a0558c"), looks := true }, kinds := [], alts := [], laidByText := true, laidKinds := [.data, .data, .data, .data, .sentinel, .sentinel, .pinned], laidTests := true, laidLooks := .later }
def CorrectTextsUptoCardSaid : Prop := Claim7.holds Tryz.pinned (.plain (OpenSpec.upto correctTextsSpec)) correctTextsUptoCard

/-- THE SECOND FORM's CARD OF 'almucantarlaw22.CorrectBack'. -/
def correctBackUptoCard : Claim7 := { stood := { row := correctBackUptoRow, standIns := [], harness := (true, "1aace01c6822298e8bfd3c9ee12696c1fde97e9ab4a69e04604a9748f0a0558c"), looks := true }, kinds := [], alts := [], laidByText := true, laidKinds := [.data, .data, .data, .data, .sentinel, .sentinel, .pinned], laidTests := true, laidLooks := .later }
def CorrectBackUptoCardSaid : Prop := Claim7.holds Tryz.pinned (.plain (OpenSpec.upto correctBackSpec)) correctBackUptoCard

/-- THE SECOND FORM's CARD OF 'almucantarlaw22.CorrectLimbs'. -/
def correctLimbsUptoCard : Claim7 := { stood := { row := correctLimbsUptoRow, standIns := [], harness := (true, "1aace01c6822298e8bfd3c9ee12696c1fde97e9ab4a69e04604a9748f0a0558c"), looks := true }, kinds := [], alts := [], laidByText := true, laidKinds := [.data, .data, .data, .data, .sentinel, .sentinel, .pinned], laidTests := true, laidLooks := .later }
def CorrectLimbsUptoCardSaid : Prop := Claim7.holds Tryz.pinned (.plain (OpenSpec.upto correctLimbsSpec)) correctLimbsUptoCard

/-- THE SECOND FORM's CARD OF 'almucantarlaw22.CorrectFound'. -/
def correctFoundUptoCard : Claim7 := { stood := { row := correctFoundUptoRow, standIns := [], harness := (true, "1aace01c6822298e8bfd3c9ee12696c1fde97e9ab4a69e04604a9748f0a0558c"), looks := true }, kinds := [], alts := [], laidByText := true, laidKinds := [.data, .data, .data, .data, .sentinel, .sentinel, .pinned], laidTests := true, laidLooks := .later }
def CorrectFoundUptoCardSaid : Prop := Claim7.holds Tryz.pinned (.plain (OpenSpec.upto correctFoundSpec)) correctFoundUptoCard
end Rows
end Go.Proofs.YtbpnacacnncopaaGreatDoor
