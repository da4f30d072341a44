/-
  DERIVED. GIVEN WITH THE SEED: THE CARDS: each row of YtalkkenkeilmpaaDoorRows.lean that lists a variable, with what it lists TIED to the program's text (the seventh form; the later family's looks); each row that meets fmt, with fmt's text TOLD by the authors' own Lean function (tested against real Go, not proved from fmt's source: count such statements apart). THE CARD IS WHAT COUNTS. Prove the row's statement (the work); the ties are given (YtalkkenkeilmpaaDoorTie.lean); close each card by the builder's one call (the guide's Derived/Test/ToyasCard.lean, 'card_holds'). Laid BY PROGRAM, IN A SANDBOX (cutbox-door.mjs). By AI agents, Wed Nov 11 2026. No macro, syntax, notation, axiom, sorry.
-/
import Derived.Test.YtalkkenkeilmpaaDoorRows
import GoSem.ClaimSeven
namespace Go.Proofs.YtalkkenkeilmpaaDoor
namespace Rows

/-- THE TIED CARD OF 'laws.FnExactSpotText'. -/
def fnExactSpotTextCard : Claim7 := { stood := { row := fnExactSpotTextRow, standIns := [], harness := (true, "f3c0045f11f935d24c1b2ba05e5a9677e9b770b0746c85f57e1280a4ab2b3aa2"), looks := true }, kinds := [], alts := [], laidByText := true, laidKinds := [.data, .data, .data], laidTests := true, laidLooks := .later }
def FnExactSpotTextCardSaid : Prop := Claim7.holds Tryd.pinned (.plain (OpenSpec.ofChange fnExactSpotTextSpec)) fnExactSpotTextCard

/-- THE TIED CARD OF 'laws.FnExactPlaneText'. -/
def fnExactPlaneTextCard : Claim7 := { stood := { row := fnExactPlaneTextRow, standIns := [], harness := (true, "f3c0045f11f935d24c1b2ba05e5a9677e9b770b0746c85f57e1280a4ab2b3aa2"), looks := true }, kinds := [], alts := [], laidByText := true, laidKinds := [.data, .data, .data], laidTests := true, laidLooks := .later }
def FnExactPlaneTextCardSaid : Prop := Claim7.holds Tryd.pinned (.plain (OpenSpec.ofChange fnExactPlaneTextSpec)) fnExactPlaneTextCard

/-- THE TIED CARD OF 'laws.FnExactParsePlane'. -/
def fnExactParsePlaneCard : Claim7 := { stood := { row := fnExactParsePlaneRow, standIns := [], harness := (true, "f3c0045f11f935d24c1b2ba05e5a9677e9b770b0746c85f57e1280a4ab2b3aa2"), looks := true }, kinds := [], alts := [], laidByText := true, laidKinds := [.data, .data, .data, .data, .sentinel, .sentinel, .pinned], laidTests := true, laidLooks := .later }
def FnExactParsePlaneCardSaid : Prop := Claim7.holds Tryd.pinned (.plain (OpenSpec.ofChange fnExactParsePlaneSpec)) fnExactParsePlaneCard

/-- THE SECOND FORM's CARD OF 'laws.FnExactSpotText'. -/
def fnExactSpotTextUptoCard : Claim7 := { stood := { row := fnExactSpotTextUptoRow, standIns := [], harness := (true, "f3c0045f11f935d24c1b2ba05e5a9677e9b770b0746c85f57e1280a4ab2b3aa2"), looks := true }, kinds := [], alts := [], laidByText := true, laidKinds := [.data, .data, .data], laidTests := true, laidLooks := .later }
def FnExactSpotTextUptoCardSaid : Prop := Claim7.holds Tryd.pinned (.plain (OpenSpec.upto fnExactSpotTextSpec)) fnExactSpotTextUptoCard

/-- THE SECOND FORM's CARD OF 'laws.FnExactPlaneText'. -/
def fnExactPlaneTextUptoCard : Claim7 := { stood := { row := fnExactPlaneTextUptoRow, standIns := [], harness := (true, "f3c0045f11f935d24c1b2ba05e5a9677e9b770b0746c85f57e1280a4ab2b3aa2"), looks := true }, kinds := [], alts := [], laidByText := true, laidKinds := [.data, .data, .data], laidTests := true, laidLooks := .later }
def FnExactPlaneTextUptoCardSaid : Prop := Claim7.holds Tryd.pinned (.plain (OpenSpec.upto fnExactPlaneTextSpec)) fnExactPlaneTextUptoCard

/-- THE SECOND FORM's CARD OF 'laws.FnExactParsePlane'. -/
def fnExactParsePlaneUptoCard : Claim7 := { stood := { row := fnExactParsePlaneUptoRow, standIns := [], harness := (true, "f3c0045f11f935d24c1b2ba05e5a9677e9b770b0746c85f57e1280a4ab2b3aa2"), looks := true }, kinds := [], alts := [], laidByText := true, laidKinds := [.data, .data, .data, .data, .sentinel, .sentinel, .pinned], laidTests := true, laidLooks := .later }
def FnExactParsePlaneUptoCardSaid : Prop := Claim7.holds Tryd.pinned (.plain (OpenSpec.upto fnExactParsePlaneSpec)) fnExactParsePlaneUptoCard
end Rows
end Go.Proofs.YtalkkenkeilmpaaDoor
