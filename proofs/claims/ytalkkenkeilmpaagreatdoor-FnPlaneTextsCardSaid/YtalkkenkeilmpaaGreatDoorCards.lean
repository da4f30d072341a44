/-
  DERIVED. GIVEN WITH THE SEED: THE CARDS: each row of YtalkkenkeilmpaaGreatDoorRows.lean that lists a variable, with what it lists TIED to the program's text (the seventh form; the later family's looks); each row that meets fmt, with fmt's text TOLD by the authors' own Lean function (tested against real Go, not proved from fmt's source: count such statements apart). THE CARD IS WHAT COUNTS. Prove the row's statement (the work); the ties are given (YtalkkenkeilmpaaGreatDoorTie.lean); close each card by the builder's one call (the guide's Derived/Test/ToyasCard.lean, 'card_holds'). Laid BY PROGRAM, IN A SANDBOX (cutbox-door.mjs). By AI agents, Wed Nov 11 2026. No macro, syntax, notation, axiom, sorry.
-/
import Derived.Test.YtalkkenkeilmpaaGreatDoorRows
import GoSem.ClaimSeven
namespace Go.Proofs.YtalkkenkeilmpaaGreatDoor
namespace Rows

/-- THE TIED CARD OF 'laws.FnPlaneTexts'. -/
def fnPlaneTextsCard : Claim7 := { stood := { row := fnPlaneTextsRow, standIns := [], harness := (true, "ae54fc67be065b337622c7bdc18fb30bf29379e5d9a0c07735d02f449438efe3"), looks := true }, kinds := [], alts := [], laidByText := true, laidKinds := [.data, .data, .data, .data, .sentinel, .sentinel, .pinned], laidTests := true, laidLooks := .later }
def FnPlaneTextsCardSaid : Prop := Claim7.holds Tryz.pinned (.plain (OpenSpec.ofChange fnPlaneTextsSpec)) fnPlaneTextsCard

/-- THE SECOND FORM's CARD OF 'laws.FnPlaneTexts'. -/
def fnPlaneTextsUptoCard : Claim7 := { stood := { row := fnPlaneTextsUptoRow, standIns := [], harness := (true, "ae54fc67be065b337622c7bdc18fb30bf29379e5d9a0c07735d02f449438efe3"), looks := true }, kinds := [], alts := [], laidByText := true, laidKinds := [.data, .data, .data, .data, .sentinel, .sentinel, .pinned], laidTests := true, laidLooks := .later }
def FnPlaneTextsUptoCardSaid : Prop := Claim7.holds Tryz.pinned (.plain (OpenSpec.upto fnPlaneTextsSpec)) fnPlaneTextsUptoCard
end Rows
end Go.Proofs.YtalkkenkeilmpaaGreatDoor
