/-
  NARROWER THAN 'FOR EVERY INPUT', by the rows' own cells (each row's printed sentence says how): FnExactCells: loops · FnExactPlanesOf: loops.
  DERIVED. THE GIVEN ROWS OF THIS SEAT. 13 by the template 'for every input the law returns true; each argument reads behind the call as it read before'; 0 by the template 'total and deterministic' (their statements: YtlkcpldohlemcaaTotals.lean).
  GIVEN WITH THE SEED: the statements are not yours to turn. If you find one false, say at which input.
  Laid BY PROGRAM, IN A SANDBOX (cutbox-rows.mjs): the forced cells as the released guide's own fill.sh prints them over the translation 975fdac1488aa4b9… (all of the seat's roots in one cut). By AI agents, Wed Nov 11 2026. No macro, syntax, notation, axiom, sorry.
-/
import Derived.Test.YtlkcpldohlemcaaChecked
import GoSem.Claim
import GoSem.ClaimJoined
import GoSem.ClaimMapViews
import Derived.JoinedTies
import Derived.KernelRfl
namespace Go.Proofs.Ytlkcpldohlemcaa
/- THE CELL 'sum', in the pinned program and in every row, IS THE sha256 OF THE DUMP (.gsa) THAT YtlkcpldohlemcaaProg.lean LOADS. Nothing in Lean hashes anything: it is a label: what it is worth is what the hold of that sum in a sandbox is worth. -/
noncomputable def Try.pinned : Pinned := { name := "ytlkcpldohlemcaa", sum := "975fdac1488aa4b9e5b4b6b692811fa8da25d8ff476154b799a2c2823a862fec", checked := Try.checked }
namespace Rows
def none {H : Type} : Left H := { results := [], args := [] }

/-- 'laws.FnExactHalfOf': WHATEVER THE INPUT: true; the input reads as it did. -/
def fnExactHalfOfSpec : ChangeSpec := { name := "fnExactHalfOf", fn := fun _ => fun
  | [d] => { results := [.lit (.bool true)], args := [d] }
  | _ => none }
def fnExactHalfOfRow : OpenClaim := { program := "ytlkcpldohlemcaa", sum := "975fdac1488aa4b9e5b4b6b692811fa8da25d8ff476154b799a2c2823a862fec", func := "loop.example/g00125/laws.FnExactHalfOf", spec := "fnExactHalfOf", recurses := true, apart := false }
def FnExactHalfOfSaid : Prop := fnExactHalfOfRow.holds Try.pinned (OpenSpec.ofChange fnExactHalfOfSpec)

/-- ITS FALSE NEIGHBOUR: 'it returns false'. Refute it at one input. -/
def fnExactHalfOfWrong : ChangeSpec := { name := "fnExactHalfOf", fn := fun _ => fun
  | [d] => { results := [.lit (.bool false)], args := [d] }
  | _ => none }
def FnExactHalfOfWrongFalsely : Prop := fnExactHalfOfRow.holds Try.pinned (OpenSpec.ofChange fnExactHalfOfWrong)

/-- 'laws.FnExactConvex': WHATEVER THE INPUT: true; the input reads as it did. -/
def fnExactConvexSpec : ChangeSpec := { name := "fnExactConvex", fn := fun _ => fun
  | [d] => { results := [.lit (.bool true)], args := [d] }
  | _ => none }
def fnExactConvexRow : OpenClaim := { program := "ytlkcpldohlemcaa", sum := "975fdac1488aa4b9e5b4b6b692811fa8da25d8ff476154b799a2c2823a862fec", func := "loop.example/g00125/laws.FnExactConvex", spec := "fnExactConvex", recurses := true, apart := false }
def FnExactConvexSaid : Prop := fnExactConvexRow.holds Try.pinned (OpenSpec.ofChange fnExactConvexSpec)

/-- ITS FALSE NEIGHBOUR: 'it returns false'. Refute it at one input. -/
def fnExactConvexWrong : ChangeSpec := { name := "fnExactConvex", fn := fun _ => fun
  | [d] => { results := [.lit (.bool false)], args := [d] }
  | _ => none }
def FnExactConvexWrongFalsely : Prop := fnExactConvexRow.holds Try.pinned (OpenSpec.ofChange fnExactConvexWrong)

/-- 'laws.FnExactBrick': WHATEVER THE INPUT: true; the input reads as it did. -/
def fnExactBrickSpec : ChangeSpec := { name := "fnExactBrick", fn := fun _ => fun
  | [d1, d2] => { results := [.lit (.bool true)], args := [d1, d2] }
  | _ => none }
def fnExactBrickRow : OpenClaim := { program := "ytlkcpldohlemcaa", sum := "975fdac1488aa4b9e5b4b6b692811fa8da25d8ff476154b799a2c2823a862fec", func := "loop.example/g00125/laws.FnExactBrick", spec := "fnExactBrick", recurses := true, apart := false }
def FnExactBrickSaid : Prop := fnExactBrickRow.holds Try.pinned (OpenSpec.ofChange fnExactBrickSpec)

/-- ITS FALSE NEIGHBOUR: 'it returns false'. Refute it at one input. -/
def fnExactBrickWrong : ChangeSpec := { name := "fnExactBrick", fn := fun _ => fun
  | [d1, d2] => { results := [.lit (.bool false)], args := [d1, d2] }
  | _ => none }
def FnExactBrickWrongFalsely : Prop := fnExactBrickRow.holds Try.pinned (OpenSpec.ofChange fnExactBrickWrong)

/-- 'laws.FnExactWedge': WHATEVER THE INPUT: true; the input reads as it did. -/
def fnExactWedgeSpec : ChangeSpec := { name := "fnExactWedge", fn := fun _ => fun
  | [d1, d2, d3] => { results := [.lit (.bool true)], args := [d1, d2, d3] }
  | _ => none }
def fnExactWedgeRow : OpenClaim := { program := "ytlkcpldohlemcaa", sum := "975fdac1488aa4b9e5b4b6b692811fa8da25d8ff476154b799a2c2823a862fec", func := "loop.example/g00125/laws.FnExactWedge", spec := "fnExactWedge", recurses := true, apart := false }
def FnExactWedgeSaid : Prop := fnExactWedgeRow.holds Try.pinned (OpenSpec.ofChange fnExactWedgeSpec)

/-- ITS FALSE NEIGHBOUR: 'it returns false'. Refute it at one input. -/
def fnExactWedgeWrong : ChangeSpec := { name := "fnExactWedge", fn := fun _ => fun
  | [d1, d2, d3] => { results := [.lit (.bool false)], args := [d1, d2, d3] }
  | _ => none }
def FnExactWedgeWrongFalsely : Prop := fnExactWedgeRow.holds Try.pinned (OpenSpec.ofChange fnExactWedgeWrong)

/-- 'laws.FnExactCells': WHATEVER THE INPUT: true; the input reads as it did. -/
def fnExactCellsSpec : ChangeSpec := { name := "fnExactCells", fn := fun _ => fun
  | [d1, d2] => { results := [.lit (.bool true)], args := [d1, d2] }
  | _ => none }
def fnExactCellsRow : OpenClaim := { program := "ytlkcpldohlemcaa", sum := "975fdac1488aa4b9e5b4b6b692811fa8da25d8ff476154b799a2c2823a862fec", func := "loop.example/g00125/laws.FnExactCells", spec := "fnExactCells", recurses := true, loops := true, apart := false }
def FnExactCellsSaid : Prop := fnExactCellsRow.holds Try.pinned (OpenSpec.ofChange fnExactCellsSpec)

/-- ITS FALSE NEIGHBOUR: 'it returns false'. Refute it at one input. -/
def fnExactCellsWrong : ChangeSpec := { name := "fnExactCells", fn := fun _ => fun
  | [d1, d2] => { results := [.lit (.bool false)], args := [d1, d2] }
  | _ => none }
def FnExactCellsWrongFalsely : Prop := fnExactCellsRow.holds Try.pinned (OpenSpec.ofChange fnExactCellsWrong)

/-- 'laws.FnExactPlanesOf': WHATEVER THE INPUT: true; the input reads as it did. -/
def fnExactPlanesOfSpec : ChangeSpec := { name := "fnExactPlanesOf", fn := fun _ => fun
  | [d] => { results := [.lit (.bool true)], args := [d] }
  | _ => none }
def fnExactPlanesOfRow : OpenClaim := { program := "ytlkcpldohlemcaa", sum := "975fdac1488aa4b9e5b4b6b692811fa8da25d8ff476154b799a2c2823a862fec", func := "loop.example/g00125/laws.FnExactPlanesOf", spec := "fnExactPlanesOf", unfollowed := true, recurses := true, loops := true, apart := false }
def FnExactPlanesOfSaid : Prop := fnExactPlanesOfRow.holds Try.pinned (OpenSpec.ofChange fnExactPlanesOfSpec)

/-- ITS FALSE NEIGHBOUR: 'it returns false'. Refute it at one input. -/
def fnExactPlanesOfWrong : ChangeSpec := { name := "fnExactPlanesOf", fn := fun _ => fun
  | [d] => { results := [.lit (.bool false)], args := [d] }
  | _ => none }
def FnExactPlanesOfWrongFalsely : Prop := fnExactPlanesOfRow.holds Try.pinned (OpenSpec.ofChange fnExactPlanesOfWrong)

/-- 'laws.FnExactCorners': WHATEVER THE INPUT: true; the input reads as it did. -/
def fnExactCornersSpec : ChangeSpec := { name := "fnExactCorners", fn := fun _ => fun
  | [d] => { results := [.lit (.bool true)], args := [d] }
  | _ => none }
def fnExactCornersRow : OpenClaim := { program := "ytlkcpldohlemcaa", sum := "975fdac1488aa4b9e5b4b6b692811fa8da25d8ff476154b799a2c2823a862fec", func := "loop.example/g00125/laws.FnExactCorners", spec := "fnExactCorners", unfollowed := true, recurses := true, apart := false }
def FnExactCornersSaid : Prop := fnExactCornersRow.holds Try.pinned (OpenSpec.ofChange fnExactCornersSpec)

/-- ITS FALSE NEIGHBOUR: 'it returns false'. Refute it at one input. -/
def fnExactCornersWrong : ChangeSpec := { name := "fnExactCorners", fn := fun _ => fun
  | [d] => { results := [.lit (.bool false)], args := [d] }
  | _ => none }
def FnExactCornersWrongFalsely : Prop := fnExactCornersRow.holds Try.pinned (OpenSpec.ofChange fnExactCornersWrong)

/-- 'laws.FnExactEdgesOf': WHATEVER THE INPUT: true; the input reads as it did. -/
def fnExactEdgesOfSpec : ChangeSpec := { name := "fnExactEdgesOf", fn := fun _ => fun
  | [d] => { results := [.lit (.bool true)], args := [d] }
  | _ => none }
def fnExactEdgesOfRow : OpenClaim := { program := "ytlkcpldohlemcaa", sum := "975fdac1488aa4b9e5b4b6b692811fa8da25d8ff476154b799a2c2823a862fec", func := "loop.example/g00125/laws.FnExactEdgesOf", spec := "fnExactEdgesOf", unfollowed := true, recurses := true, apart := false }
def FnExactEdgesOfSaid : Prop := fnExactEdgesOfRow.holds Try.pinned (OpenSpec.ofChange fnExactEdgesOfSpec)

/-- ITS FALSE NEIGHBOUR: 'it returns false'. Refute it at one input. -/
def fnExactEdgesOfWrong : ChangeSpec := { name := "fnExactEdgesOf", fn := fun _ => fun
  | [d] => { results := [.lit (.bool false)], args := [d] }
  | _ => none }
def FnExactEdgesOfWrongFalsely : Prop := fnExactEdgesOfRow.holds Try.pinned (OpenSpec.ofChange fnExactEdgesOfWrong)

/-- 'laws.FnShifted': WHATEVER THE INPUT: true; the input reads as it did. -/
def fnShiftedSpec : ChangeSpec := { name := "fnShifted", fn := fun _ => fun
  | [d] => { results := [.lit (.bool true)], args := [d] }
  | _ => none }
def fnShiftedRow : OpenClaim := { program := "ytlkcpldohlemcaa", sum := "975fdac1488aa4b9e5b4b6b692811fa8da25d8ff476154b799a2c2823a862fec", func := "loop.example/g00125/laws.FnShifted", spec := "fnShifted", apart := false }
def FnShiftedSaid : Prop := fnShiftedRow.holds Try.pinned (OpenSpec.ofChange fnShiftedSpec)

/-- ITS FALSE NEIGHBOUR: 'it returns false'. Refute it at one input. -/
def fnShiftedWrong : ChangeSpec := { name := "fnShifted", fn := fun _ => fun
  | [d] => { results := [.lit (.bool false)], args := [d] }
  | _ => none }
def FnShiftedWrongFalsely : Prop := fnShiftedRow.holds Try.pinned (OpenSpec.ofChange fnShiftedWrong)

/-- 'laws.FnDets': WHATEVER THE INPUT: true; the input reads as it did. -/
def fnDetsSpec : ChangeSpec := { name := "fnDets", fn := fun _ => fun
  | [d] => { results := [.lit (.bool true)], args := [d] }
  | _ => none }
def fnDetsRow : OpenClaim := { program := "ytlkcpldohlemcaa", sum := "975fdac1488aa4b9e5b4b6b692811fa8da25d8ff476154b799a2c2823a862fec", func := "loop.example/g00125/laws.FnDets", spec := "fnDets", apart := false }
def FnDetsSaid : Prop := fnDetsRow.holds Try.pinned (OpenSpec.ofChange fnDetsSpec)

/-- ITS FALSE NEIGHBOUR: 'it returns false'. Refute it at one input. -/
def fnDetsWrong : ChangeSpec := { name := "fnDets", fn := fun _ => fun
  | [d] => { results := [.lit (.bool false)], args := [d] }
  | _ => none }
def FnDetsWrongFalsely : Prop := fnDetsRow.holds Try.pinned (OpenSpec.ofChange fnDetsWrong)

/-- 'laws.FnMet': WHATEVER THE INPUT: true; the input reads as it did. -/
def fnMetSpec : ChangeSpec := { name := "fnMet", fn := fun _ => fun
  | [d] => { results := [.lit (.bool true)], args := [d] }
  | _ => none }
def fnMetRow : OpenClaim := { program := "ytlkcpldohlemcaa", sum := "975fdac1488aa4b9e5b4b6b692811fa8da25d8ff476154b799a2c2823a862fec", func := "loop.example/g00125/laws.FnMet", spec := "fnMet", apart := false }
def FnMetSaid : Prop := fnMetRow.holds Try.pinned (OpenSpec.ofChange fnMetSpec)

/-- ITS FALSE NEIGHBOUR: 'it returns false'. Refute it at one input. -/
def fnMetWrong : ChangeSpec := { name := "fnMet", fn := fun _ => fun
  | [d] => { results := [.lit (.bool false)], args := [d] }
  | _ => none }
def FnMetWrongFalsely : Prop := fnMetRow.holds Try.pinned (OpenSpec.ofChange fnMetWrong)

/-- 'laws.FnRoom': WHATEVER THE INPUT: true; the input reads as it did. -/
def fnRoomSpec : ChangeSpec := { name := "fnRoom", fn := fun _ => fun
  | [d] => { results := [.lit (.bool true)], args := [d] }
  | _ => none }
def fnRoomRow : OpenClaim := { program := "ytlkcpldohlemcaa", sum := "975fdac1488aa4b9e5b4b6b692811fa8da25d8ff476154b799a2c2823a862fec", func := "loop.example/g00125/laws.FnRoom", spec := "fnRoom", apart := false }
def FnRoomSaid : Prop := fnRoomRow.holds Try.pinned (OpenSpec.ofChange fnRoomSpec)

/-- ITS FALSE NEIGHBOUR: 'it returns false'. Refute it at one input. -/
def fnRoomWrong : ChangeSpec := { name := "fnRoom", fn := fun _ => fun
  | [d] => { results := [.lit (.bool false)], args := [d] }
  | _ => none }
def FnRoomWrongFalsely : Prop := fnRoomRow.holds Try.pinned (OpenSpec.ofChange fnRoomWrong)

/-- 'laws.FnBlamed': WHATEVER THE INPUT: true; the input reads as it did. -/
def fnBlamedSpec : ChangeSpec := { name := "fnBlamed", fn := fun _ => fun
  | [d] => { results := [.lit (.bool true)], args := [d] }
  | _ => none }
def fnBlamedRow : OpenClaim := { program := "ytlkcpldohlemcaa", sum := "975fdac1488aa4b9e5b4b6b692811fa8da25d8ff476154b799a2c2823a862fec", func := "loop.example/g00125/laws.FnBlamed", spec := "fnBlamed", apart := false }
def FnBlamedSaid : Prop := fnBlamedRow.holds Try.pinned (OpenSpec.ofChange fnBlamedSpec)

/-- ITS FALSE NEIGHBOUR: 'it returns false'. Refute it at one input. -/
def fnBlamedWrong : ChangeSpec := { name := "fnBlamed", fn := fun _ => fun
  | [d] => { results := [.lit (.bool false)], args := [d] }
  | _ => none }
def FnBlamedWrongFalsely : Prop := fnBlamedRow.holds Try.pinned (OpenSpec.ofChange fnBlamedWrong)

/- THE SECOND FORM. 'bulk': how many values and letters a reading holds, each counted each time it is reached (what is shared counts as often as it is met; a slice's spare places count too). A statement '..UptoSaid' is the law's where the arguments, and the package variables that the reading takes, are together of bulk at most 1048576: NARROWER than '..Said'. Prove '..Said' where nothing that the law and all that it calls make is longer than what came in: it says more and counts as full. Else prove '..UptoSaid'. A law counts once. -/
mutual
def uptoBulk {H : Type} : DataW H → Nat
  | .lit (.string bytes) => bytes.length + 1
  | .lit _ => 1
  | .nil => 1
  | .ptr d => uptoBulk d + 1
  | .slice elems spare => uptoBulkAll elems + uptoBulkAll spare + 1
  | .agg parts => uptoBulkAll parts + 1
  | .iface _ d => uptoBulk d + 1
  | .map entries => uptoBulkEntries entries + 1
  | .held _ => 1
def uptoBulkAll {H : Type} : List (DataW H) → Nat
  | [] => 0
  | d :: r => uptoBulk d + uptoBulkAll r
def uptoBulkEntries {H : Type} : List (Lit × DataW H) → Nat
  | [] => 0
  | x :: r => uptoBulkEntry x + uptoBulkEntries r
def uptoBulkEntry {H : Type} : Lit × DataW H → Nat
  | (.string bytes, d) => bytes.length + uptoBulk d + 1
  | (_, d) => uptoBulk d + 1
 end
def uptoSmall : (H : Type) → List (DataW H) → Bool := fun _ ds => decide (uptoBulkAll ds ≤ 1048576)
def OpenSpec.upto (s : _root_.Go.ChangeSpec) : _root_.Go.OpenSpec := { _root_.Go.OpenSpec.ofChange s with cond := some uptoSmall }

/-- 'laws.FnExactHalfOf', WHERE WHAT IT READS IS OF BULK AT MOST 1048576: true; the input reads as it did. -/
def fnExactHalfOfUptoRow : OpenClaim := { program := "ytlkcpldohlemcaa", sum := "975fdac1488aa4b9e5b4b6b692811fa8da25d8ff476154b799a2c2823a862fec", func := "loop.example/g00125/laws.FnExactHalfOf", spec := "fnExactHalfOf", recurses := true, apart := false, narrowed := true }
def FnExactHalfOfUptoSaid : Prop := fnExactHalfOfUptoRow.holds Try.pinned (OpenSpec.upto fnExactHalfOfSpec)

/-- 'laws.FnExactConvex', WHERE WHAT IT READS IS OF BULK AT MOST 1048576: true; the input reads as it did. -/
def fnExactConvexUptoRow : OpenClaim := { program := "ytlkcpldohlemcaa", sum := "975fdac1488aa4b9e5b4b6b692811fa8da25d8ff476154b799a2c2823a862fec", func := "loop.example/g00125/laws.FnExactConvex", spec := "fnExactConvex", recurses := true, apart := false, narrowed := true }
def FnExactConvexUptoSaid : Prop := fnExactConvexUptoRow.holds Try.pinned (OpenSpec.upto fnExactConvexSpec)

/-- 'laws.FnExactBrick', WHERE WHAT IT READS IS OF BULK AT MOST 1048576: true; the input reads as it did. -/
def fnExactBrickUptoRow : OpenClaim := { program := "ytlkcpldohlemcaa", sum := "975fdac1488aa4b9e5b4b6b692811fa8da25d8ff476154b799a2c2823a862fec", func := "loop.example/g00125/laws.FnExactBrick", spec := "fnExactBrick", recurses := true, apart := false, narrowed := true }
def FnExactBrickUptoSaid : Prop := fnExactBrickUptoRow.holds Try.pinned (OpenSpec.upto fnExactBrickSpec)

/-- 'laws.FnExactWedge', WHERE WHAT IT READS IS OF BULK AT MOST 1048576: true; the input reads as it did. -/
def fnExactWedgeUptoRow : OpenClaim := { program := "ytlkcpldohlemcaa", sum := "975fdac1488aa4b9e5b4b6b692811fa8da25d8ff476154b799a2c2823a862fec", func := "loop.example/g00125/laws.FnExactWedge", spec := "fnExactWedge", recurses := true, apart := false, narrowed := true }
def FnExactWedgeUptoSaid : Prop := fnExactWedgeUptoRow.holds Try.pinned (OpenSpec.upto fnExactWedgeSpec)

/-- 'laws.FnExactCells', WHERE WHAT IT READS IS OF BULK AT MOST 1048576: true; the input reads as it did. -/
def fnExactCellsUptoRow : OpenClaim := { program := "ytlkcpldohlemcaa", sum := "975fdac1488aa4b9e5b4b6b692811fa8da25d8ff476154b799a2c2823a862fec", func := "loop.example/g00125/laws.FnExactCells", spec := "fnExactCells", recurses := true, loops := true, apart := false, narrowed := true }
def FnExactCellsUptoSaid : Prop := fnExactCellsUptoRow.holds Try.pinned (OpenSpec.upto fnExactCellsSpec)

/-- 'laws.FnExactPlanesOf', WHERE WHAT IT READS IS OF BULK AT MOST 1048576: true; the input reads as it did. -/
def fnExactPlanesOfUptoRow : OpenClaim := { program := "ytlkcpldohlemcaa", sum := "975fdac1488aa4b9e5b4b6b692811fa8da25d8ff476154b799a2c2823a862fec", func := "loop.example/g00125/laws.FnExactPlanesOf", spec := "fnExactPlanesOf", unfollowed := true, recurses := true, loops := true, apart := false, narrowed := true }
def FnExactPlanesOfUptoSaid : Prop := fnExactPlanesOfUptoRow.holds Try.pinned (OpenSpec.upto fnExactPlanesOfSpec)

/-- 'laws.FnExactCorners', WHERE WHAT IT READS IS OF BULK AT MOST 1048576: true; the input reads as it did. -/
def fnExactCornersUptoRow : OpenClaim := { program := "ytlkcpldohlemcaa", sum := "975fdac1488aa4b9e5b4b6b692811fa8da25d8ff476154b799a2c2823a862fec", func := "loop.example/g00125/laws.FnExactCorners", spec := "fnExactCorners", unfollowed := true, recurses := true, apart := false, narrowed := true }
def FnExactCornersUptoSaid : Prop := fnExactCornersUptoRow.holds Try.pinned (OpenSpec.upto fnExactCornersSpec)

/-- 'laws.FnExactEdgesOf', WHERE WHAT IT READS IS OF BULK AT MOST 1048576: true; the input reads as it did. -/
def fnExactEdgesOfUptoRow : OpenClaim := { program := "ytlkcpldohlemcaa", sum := "975fdac1488aa4b9e5b4b6b692811fa8da25d8ff476154b799a2c2823a862fec", func := "loop.example/g00125/laws.FnExactEdgesOf", spec := "fnExactEdgesOf", unfollowed := true, recurses := true, apart := false, narrowed := true }
def FnExactEdgesOfUptoSaid : Prop := fnExactEdgesOfUptoRow.holds Try.pinned (OpenSpec.upto fnExactEdgesOfSpec)

/-- 'laws.FnShifted', WHERE WHAT IT READS IS OF BULK AT MOST 1048576: true; the input reads as it did. -/
def fnShiftedUptoRow : OpenClaim := { program := "ytlkcpldohlemcaa", sum := "975fdac1488aa4b9e5b4b6b692811fa8da25d8ff476154b799a2c2823a862fec", func := "loop.example/g00125/laws.FnShifted", spec := "fnShifted", apart := false, narrowed := true }
def FnShiftedUptoSaid : Prop := fnShiftedUptoRow.holds Try.pinned (OpenSpec.upto fnShiftedSpec)

/-- 'laws.FnDets', WHERE WHAT IT READS IS OF BULK AT MOST 1048576: true; the input reads as it did. -/
def fnDetsUptoRow : OpenClaim := { program := "ytlkcpldohlemcaa", sum := "975fdac1488aa4b9e5b4b6b692811fa8da25d8ff476154b799a2c2823a862fec", func := "loop.example/g00125/laws.FnDets", spec := "fnDets", apart := false, narrowed := true }
def FnDetsUptoSaid : Prop := fnDetsUptoRow.holds Try.pinned (OpenSpec.upto fnDetsSpec)

/-- 'laws.FnMet', WHERE WHAT IT READS IS OF BULK AT MOST 1048576: true; the input reads as it did. -/
def fnMetUptoRow : OpenClaim := { program := "ytlkcpldohlemcaa", sum := "975fdac1488aa4b9e5b4b6b692811fa8da25d8ff476154b799a2c2823a862fec", func := "loop.example/g00125/laws.FnMet", spec := "fnMet", apart := false, narrowed := true }
def FnMetUptoSaid : Prop := fnMetUptoRow.holds Try.pinned (OpenSpec.upto fnMetSpec)

/-- 'laws.FnRoom', WHERE WHAT IT READS IS OF BULK AT MOST 1048576: true; the input reads as it did. -/
def fnRoomUptoRow : OpenClaim := { program := "ytlkcpldohlemcaa", sum := "975fdac1488aa4b9e5b4b6b692811fa8da25d8ff476154b799a2c2823a862fec", func := "loop.example/g00125/laws.FnRoom", spec := "fnRoom", apart := false, narrowed := true }
def FnRoomUptoSaid : Prop := fnRoomUptoRow.holds Try.pinned (OpenSpec.upto fnRoomSpec)

/-- 'laws.FnBlamed', WHERE WHAT IT READS IS OF BULK AT MOST 1048576: true; the input reads as it did. -/
def fnBlamedUptoRow : OpenClaim := { program := "ytlkcpldohlemcaa", sum := "975fdac1488aa4b9e5b4b6b692811fa8da25d8ff476154b799a2c2823a862fec", func := "loop.example/g00125/laws.FnBlamed", spec := "fnBlamed", apart := false, narrowed := true }
def FnBlamedUptoSaid : Prop := fnBlamedUptoRow.holds Try.pinned (OpenSpec.upto fnBlamedSpec)

end Rows
end Go.Proofs.Ytlkcpldohlemcaa
