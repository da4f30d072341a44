/-
  NARROWER THAN 'FOR EVERY INPUT', by the rows' own cells (each row's printed sentence says how): FnExactSameTree: loops · FnExactSolidOk: loops · FnExactNodesOf: loops · FnExactDepthOf: loops · FnExactAround: loops · FnExactWhere: loops · FnExactCells: loops.
  DERIVED. THE GIVEN ROWS OF THIS SEAT. 19 by the template 'for every input the law returns true; each argument reads behind the call as it read before'; 0 by the template 'total and deterministic' (their statements: YtndedincanmaeaaTotals.lean).
  GIVEN WITH THE SEED: the statements are not yours to turn. If you find one false, say at which input.
  Laid BY PROGRAM, IN A SANDBOX (cutbox-rows.mjs): the forced cells as the released guide's own fill.sh prints them over the translation 8462bd1a5b8783e8… (all of the seat's roots in one cut). By AI agents, Wed Nov 11 2026. No macro, syntax, notation, axiom, sorry.
-/
import Derived.Test.YtndedincanmaeaaChecked
import GoSem.Claim
import GoSem.ClaimJoined
import GoSem.ClaimMapViews
import Derived.JoinedTies
import Derived.KernelRfl
namespace Go.Proofs.Ytndedincanmaeaa
/- THE CELL 'sum', in the pinned program and in every row, IS THE sha256 OF THE DUMP (.gsa) THAT YtndedincanmaeaaProg.lean LOADS. Nothing in Lean hashes anything: it is a label: what it is worth is what the hold of that sum in a sandbox is worth. -/
noncomputable def Try.pinned : Pinned := { name := "ytndedincanmaeaa", sum := "8462bd1a5b8783e8249c92c71214d4acea58c7fb50c32254c753442903339194", checked := Try.checked }
namespace Rows
def none {H : Type} : Left H := { results := [], args := [] }

/-- 'laws.FnExactLeaf': WHATEVER THE INPUT: true; the input reads as it did. -/
def fnExactLeafSpec : ChangeSpec := { name := "fnExactLeaf", fn := fun _ => fun
  | [d] => { results := [.lit (.bool true)], args := [d] }
  | _ => none }
def fnExactLeafRow : OpenClaim := { program := "ytndedincanmaeaa", sum := "8462bd1a5b8783e8249c92c71214d4acea58c7fb50c32254c753442903339194", func := "loop.example/g00125/laws.FnExactLeaf", spec := "fnExactLeaf", recurses := true, apart := false }
def FnExactLeafSaid : Prop := fnExactLeafRow.holds Try.pinned (OpenSpec.ofChange fnExactLeafSpec)

/-- ITS FALSE NEIGHBOUR: 'it returns false'. Refute it at one input. -/
def fnExactLeafWrong : ChangeSpec := { name := "fnExactLeaf", fn := fun _ => fun
  | [d] => { results := [.lit (.bool false)], args := [d] }
  | _ => none }
def FnExactLeafWrongFalsely : Prop := fnExactLeafRow.holds Try.pinned (OpenSpec.ofChange fnExactLeafWrong)

/-- 'laws.FnExactSameTree': WHATEVER THE INPUT: true; the input reads as it did. -/
def fnExactSameTreeSpec : ChangeSpec := { name := "fnExactSameTree", fn := fun _ => fun
  | [d1, d2] => { results := [.lit (.bool true)], args := [d1, d2] }
  | _ => none }
def fnExactSameTreeRow : OpenClaim := { program := "ytndedincanmaeaa", sum := "8462bd1a5b8783e8249c92c71214d4acea58c7fb50c32254c753442903339194", func := "loop.example/g00125/laws.FnExactSameTree", spec := "fnExactSameTree", unfollowed := true, recurses := true, loops := true, apart := false }
def FnExactSameTreeSaid : Prop := fnExactSameTreeRow.holds Try.pinned (OpenSpec.ofChange fnExactSameTreeSpec)

/-- ITS FALSE NEIGHBOUR: 'it returns false'. Refute it at one input. -/
def fnExactSameTreeWrong : ChangeSpec := { name := "fnExactSameTree", fn := fun _ => fun
  | [d1, d2] => { results := [.lit (.bool false)], args := [d1, d2] }
  | _ => none }
def FnExactSameTreeWrongFalsely : Prop := fnExactSameTreeRow.holds Try.pinned (OpenSpec.ofChange fnExactSameTreeWrong)

/-- 'laws.FnExactHalfOf': WHATEVER THE INPUT: true; the input reads as it did. -/
def fnExactHalfOfSpec : ChangeSpec := { name := "fnExactHalfOf", fn := fun _ => fun
  | [d] => { results := [.lit (.bool true)], args := [d] }
  | _ => none }
def fnExactHalfOfRow : OpenClaim := { program := "ytndedincanmaeaa", sum := "8462bd1a5b8783e8249c92c71214d4acea58c7fb50c32254c753442903339194", func := "loop.example/g00125/laws.FnExactHalfOf", spec := "fnExactHalfOf", recurses := true, apart := false }
def FnExactHalfOfSaid : Prop := fnExactHalfOfRow.holds Try.pinned (OpenSpec.ofChange fnExactHalfOfSpec)

/-- ITS FALSE NEIGHBOUR: 'it returns false'. Refute it at one input. -/
def fnExactHalfOfWrong : ChangeSpec := { name := "fnExactHalfOf", fn := fun _ => fun
  | [d] => { results := [.lit (.bool false)], args := [d] }
  | _ => none }
def FnExactHalfOfWrongFalsely : Prop := fnExactHalfOfRow.holds Try.pinned (OpenSpec.ofChange fnExactHalfOfWrong)

/-- 'laws.FnExactShifted': WHATEVER THE INPUT: true; the input reads as it did. -/
def fnExactShiftedSpec : ChangeSpec := { name := "fnExactShifted", fn := fun _ => fun
  | [d1, d2] => { results := [.lit (.bool true)], args := [d1, d2] }
  | _ => none }
def fnExactShiftedRow : OpenClaim := { program := "ytndedincanmaeaa", sum := "8462bd1a5b8783e8249c92c71214d4acea58c7fb50c32254c753442903339194", func := "loop.example/g00125/laws.FnExactShifted", spec := "fnExactShifted", apart := false }
def FnExactShiftedSaid : Prop := fnExactShiftedRow.holds Try.pinned (OpenSpec.ofChange fnExactShiftedSpec)

/-- ITS FALSE NEIGHBOUR: 'it returns false'. Refute it at one input. -/
def fnExactShiftedWrong : ChangeSpec := { name := "fnExactShifted", fn := fun _ => fun
  | [d1, d2] => { results := [.lit (.bool false)], args := [d1, d2] }
  | _ => none }
def FnExactShiftedWrongFalsely : Prop := fnExactShiftedRow.holds Try.pinned (OpenSpec.ofChange fnExactShiftedWrong)

/-- 'laws.FnExactOpen': WHATEVER THE INPUT: true; the input reads as it did. -/
def fnExactOpenSpec : ChangeSpec := { name := "fnExactOpen", fn := fun _ => fun
  | [d] => { results := [.lit (.bool true)], args := [d] }
  | _ => none }
def fnExactOpenRow : OpenClaim := { program := "ytndedincanmaeaa", sum := "8462bd1a5b8783e8249c92c71214d4acea58c7fb50c32254c753442903339194", func := "loop.example/g00125/laws.FnExactOpen", spec := "fnExactOpen", apart := false }
def FnExactOpenSaid : Prop := fnExactOpenRow.holds Try.pinned (OpenSpec.ofChange fnExactOpenSpec)

/-- ITS FALSE NEIGHBOUR: 'it returns false'. Refute it at one input. -/
def fnExactOpenWrong : ChangeSpec := { name := "fnExactOpen", fn := fun _ => fun
  | [d] => { results := [.lit (.bool false)], args := [d] }
  | _ => none }
def FnExactOpenWrongFalsely : Prop := fnExactOpenRow.holds Try.pinned (OpenSpec.ofChange fnExactOpenWrong)

/-- 'laws.FnExactOpenWith': WHATEVER THE INPUT: true; the input reads as it did. -/
def fnExactOpenWithSpec : ChangeSpec := { name := "fnExactOpenWith", fn := fun _ => fun
  | [d1, d2] => { results := [.lit (.bool true)], args := [d1, d2] }
  | _ => none }
def fnExactOpenWithRow : OpenClaim := { program := "ytndedincanmaeaa", sum := "8462bd1a5b8783e8249c92c71214d4acea58c7fb50c32254c753442903339194", func := "loop.example/g00125/laws.FnExactOpenWith", spec := "fnExactOpenWith", apart := false }
def FnExactOpenWithSaid : Prop := fnExactOpenWithRow.holds Try.pinned (OpenSpec.ofChange fnExactOpenWithSpec)

/-- ITS FALSE NEIGHBOUR: 'it returns false'. Refute it at one input. -/
def fnExactOpenWithWrong : ChangeSpec := { name := "fnExactOpenWith", fn := fun _ => fun
  | [d1, d2] => { results := [.lit (.bool false)], args := [d1, d2] }
  | _ => none }
def FnExactOpenWithWrongFalsely : Prop := fnExactOpenWithRow.holds Try.pinned (OpenSpec.ofChange fnExactOpenWithWrong)

/-- 'laws.FnExactSplits': WHATEVER THE INPUT: true; the input reads as it did. -/
def fnExactSplitsSpec : ChangeSpec := { name := "fnExactSplits", fn := fun _ => fun
  | [d1, d2] => { results := [.lit (.bool true)], args := [d1, d2] }
  | _ => none }
def fnExactSplitsRow : OpenClaim := { program := "ytndedincanmaeaa", sum := "8462bd1a5b8783e8249c92c71214d4acea58c7fb50c32254c753442903339194", func := "loop.example/g00125/laws.FnExactSplits", spec := "fnExactSplits", apart := false }
def FnExactSplitsSaid : Prop := fnExactSplitsRow.holds Try.pinned (OpenSpec.ofChange fnExactSplitsSpec)

/-- ITS FALSE NEIGHBOUR: 'it returns false'. Refute it at one input. -/
def fnExactSplitsWrong : ChangeSpec := { name := "fnExactSplits", fn := fun _ => fun
  | [d1, d2] => { results := [.lit (.bool false)], args := [d1, d2] }
  | _ => none }
def FnExactSplitsWrongFalsely : Prop := fnExactSplitsRow.holds Try.pinned (OpenSpec.ofChange fnExactSplitsWrong)

/-- 'laws.FnExactSolidOk': WHATEVER THE INPUT: true; the input reads as it did. -/
def fnExactSolidOkSpec : ChangeSpec := { name := "fnExactSolidOk", fn := fun _ => fun
  | [d] => { results := [.lit (.bool true)], args := [d] }
  | _ => none }
def fnExactSolidOkRow : OpenClaim := { program := "ytndedincanmaeaa", sum := "8462bd1a5b8783e8249c92c71214d4acea58c7fb50c32254c753442903339194", func := "loop.example/g00125/laws.FnExactSolidOk", spec := "fnExactSolidOk", recurses := true, loops := true, apart := false }
def FnExactSolidOkSaid : Prop := fnExactSolidOkRow.holds Try.pinned (OpenSpec.ofChange fnExactSolidOkSpec)

/-- ITS FALSE NEIGHBOUR: 'it returns false'. Refute it at one input. -/
def fnExactSolidOkWrong : ChangeSpec := { name := "fnExactSolidOk", fn := fun _ => fun
  | [d] => { results := [.lit (.bool false)], args := [d] }
  | _ => none }
def FnExactSolidOkWrongFalsely : Prop := fnExactSolidOkRow.holds Try.pinned (OpenSpec.ofChange fnExactSolidOkWrong)

/-- 'laws.FnExactInCell': WHATEVER THE INPUT: true; the input reads as it did. -/
def fnExactInCellSpec : ChangeSpec := { name := "fnExactInCell", fn := fun _ => fun
  | [d1, d2] => { results := [.lit (.bool true)], args := [d1, d2] }
  | _ => none }
def fnExactInCellRow : OpenClaim := { program := "ytndedincanmaeaa", sum := "8462bd1a5b8783e8249c92c71214d4acea58c7fb50c32254c753442903339194", func := "loop.example/g00125/laws.FnExactInCell", spec := "fnExactInCell", apart := false }
def FnExactInCellSaid : Prop := fnExactInCellRow.holds Try.pinned (OpenSpec.ofChange fnExactInCellSpec)

/-- ITS FALSE NEIGHBOUR: 'it returns false'. Refute it at one input. -/
def fnExactInCellWrong : ChangeSpec := { name := "fnExactInCell", fn := fun _ => fun
  | [d1, d2] => { results := [.lit (.bool false)], args := [d1, d2] }
  | _ => none }
def FnExactInCellWrongFalsely : Prop := fnExactInCellRow.holds Try.pinned (OpenSpec.ofChange fnExactInCellWrong)

/-- 'laws.FnExactNodesOf': WHATEVER THE INPUT: true; the input reads as it did. -/
def fnExactNodesOfSpec : ChangeSpec := { name := "fnExactNodesOf", fn := fun _ => fun
  | [d] => { results := [.lit (.bool true)], args := [d] }
  | _ => none }
def fnExactNodesOfRow : OpenClaim := { program := "ytndedincanmaeaa", sum := "8462bd1a5b8783e8249c92c71214d4acea58c7fb50c32254c753442903339194", func := "loop.example/g00125/laws.FnExactNodesOf", spec := "fnExactNodesOf", recurses := true, loops := true, apart := false }
def FnExactNodesOfSaid : Prop := fnExactNodesOfRow.holds Try.pinned (OpenSpec.ofChange fnExactNodesOfSpec)

/-- ITS FALSE NEIGHBOUR: 'it returns false'. Refute it at one input. -/
def fnExactNodesOfWrong : ChangeSpec := { name := "fnExactNodesOf", fn := fun _ => fun
  | [d] => { results := [.lit (.bool false)], args := [d] }
  | _ => none }
def FnExactNodesOfWrongFalsely : Prop := fnExactNodesOfRow.holds Try.pinned (OpenSpec.ofChange fnExactNodesOfWrong)

/-- 'laws.FnExactDepthOf': WHATEVER THE INPUT: true; the input reads as it did. -/
def fnExactDepthOfSpec : ChangeSpec := { name := "fnExactDepthOf", fn := fun _ => fun
  | [d] => { results := [.lit (.bool true)], args := [d] }
  | _ => none }
def fnExactDepthOfRow : OpenClaim := { program := "ytndedincanmaeaa", sum := "8462bd1a5b8783e8249c92c71214d4acea58c7fb50c32254c753442903339194", func := "loop.example/g00125/laws.FnExactDepthOf", spec := "fnExactDepthOf", recurses := true, loops := true, apart := false }
def FnExactDepthOfSaid : Prop := fnExactDepthOfRow.holds Try.pinned (OpenSpec.ofChange fnExactDepthOfSpec)

/-- ITS FALSE NEIGHBOUR: 'it returns false'. Refute it at one input. -/
def fnExactDepthOfWrong : ChangeSpec := { name := "fnExactDepthOf", fn := fun _ => fun
  | [d] => { results := [.lit (.bool false)], args := [d] }
  | _ => none }
def FnExactDepthOfWrongFalsely : Prop := fnExactDepthOfRow.holds Try.pinned (OpenSpec.ofChange fnExactDepthOfWrong)

/-- 'laws.FnExactBounded': WHATEVER THE INPUT: true; the input reads as it did. -/
def fnExactBoundedSpec : ChangeSpec := { name := "fnExactBounded", fn := fun _ => fun
  | [d] => { results := [.lit (.bool true)], args := [d] }
  | _ => none }
def fnExactBoundedRow : OpenClaim := { program := "ytndedincanmaeaa", sum := "8462bd1a5b8783e8249c92c71214d4acea58c7fb50c32254c753442903339194", func := "loop.example/g00125/laws.FnExactBounded", spec := "fnExactBounded", apart := false }
def FnExactBoundedSaid : Prop := fnExactBoundedRow.holds Try.pinned (OpenSpec.ofChange fnExactBoundedSpec)

/-- ITS FALSE NEIGHBOUR: 'it returns false'. Refute it at one input. -/
def fnExactBoundedWrong : ChangeSpec := { name := "fnExactBounded", fn := fun _ => fun
  | [d] => { results := [.lit (.bool false)], args := [d] }
  | _ => none }
def FnExactBoundedWrongFalsely : Prop := fnExactBoundedRow.holds Try.pinned (OpenSpec.ofChange fnExactBoundedWrong)

/-- 'laws.FnExactNeeded': WHATEVER THE INPUT: true; the input reads as it did. -/
def fnExactNeededSpec : ChangeSpec := { name := "fnExactNeeded", fn := fun _ => fun
  | [d] => { results := [.lit (.bool true)], args := [d] }
  | _ => none }
def fnExactNeededRow : OpenClaim := { program := "ytndedincanmaeaa", sum := "8462bd1a5b8783e8249c92c71214d4acea58c7fb50c32254c753442903339194", func := "loop.example/g00125/laws.FnExactNeeded", spec := "fnExactNeeded", apart := false }
def FnExactNeededSaid : Prop := fnExactNeededRow.holds Try.pinned (OpenSpec.ofChange fnExactNeededSpec)

/-- ITS FALSE NEIGHBOUR: 'it returns false'. Refute it at one input. -/
def fnExactNeededWrong : ChangeSpec := { name := "fnExactNeeded", fn := fun _ => fun
  | [d] => { results := [.lit (.bool false)], args := [d] }
  | _ => none }
def FnExactNeededWrongFalsely : Prop := fnExactNeededRow.holds Try.pinned (OpenSpec.ofChange fnExactNeededWrong)

/-- 'laws.FnExactAround': WHATEVER THE INPUT: true; the input reads as it did. -/
def fnExactAroundSpec : ChangeSpec := { name := "fnExactAround", fn := fun _ => fun
  | [d1, d2] => { results := [.lit (.bool true)], args := [d1, d2] }
  | _ => none }
def fnExactAroundRow : OpenClaim := { program := "ytndedincanmaeaa", sum := "8462bd1a5b8783e8249c92c71214d4acea58c7fb50c32254c753442903339194", func := "loop.example/g00125/laws.FnExactAround", spec := "fnExactAround", recurses := true, loops := true, apart := false }
def FnExactAroundSaid : Prop := fnExactAroundRow.holds Try.pinned (OpenSpec.ofChange fnExactAroundSpec)

/-- ITS FALSE NEIGHBOUR: 'it returns false'. Refute it at one input. -/
def fnExactAroundWrong : ChangeSpec := { name := "fnExactAround", fn := fun _ => fun
  | [d1, d2] => { results := [.lit (.bool false)], args := [d1, d2] }
  | _ => none }
def FnExactAroundWrongFalsely : Prop := fnExactAroundRow.holds Try.pinned (OpenSpec.ofChange fnExactAroundWrong)

/-- 'laws.FnExactConvex': WHATEVER THE INPUT: true; the input reads as it did. -/
def fnExactConvexSpec : ChangeSpec := { name := "fnExactConvex", fn := fun _ => fun
  | [d] => { results := [.lit (.bool true)], args := [d] }
  | _ => none }
def fnExactConvexRow : OpenClaim := { program := "ytndedincanmaeaa", sum := "8462bd1a5b8783e8249c92c71214d4acea58c7fb50c32254c753442903339194", func := "loop.example/g00125/laws.FnExactConvex", spec := "fnExactConvex", recurses := true, apart := false }
def FnExactConvexSaid : Prop := fnExactConvexRow.holds Try.pinned (OpenSpec.ofChange fnExactConvexSpec)

/-- ITS FALSE NEIGHBOUR: 'it returns false'. Refute it at one input. -/
def fnExactConvexWrong : ChangeSpec := { name := "fnExactConvex", fn := fun _ => fun
  | [d] => { results := [.lit (.bool false)], args := [d] }
  | _ => none }
def FnExactConvexWrongFalsely : Prop := fnExactConvexRow.holds Try.pinned (OpenSpec.ofChange fnExactConvexWrong)

/-- 'laws.FnExactBrick': WHATEVER THE INPUT: true; the input reads as it did. -/
def fnExactBrickSpec : ChangeSpec := { name := "fnExactBrick", fn := fun _ => fun
  | [d1, d2] => { results := [.lit (.bool true)], args := [d1, d2] }
  | _ => none }
def fnExactBrickRow : OpenClaim := { program := "ytndedincanmaeaa", sum := "8462bd1a5b8783e8249c92c71214d4acea58c7fb50c32254c753442903339194", func := "loop.example/g00125/laws.FnExactBrick", spec := "fnExactBrick", recurses := true, apart := false }
def FnExactBrickSaid : Prop := fnExactBrickRow.holds Try.pinned (OpenSpec.ofChange fnExactBrickSpec)

/-- ITS FALSE NEIGHBOUR: 'it returns false'. Refute it at one input. -/
def fnExactBrickWrong : ChangeSpec := { name := "fnExactBrick", fn := fun _ => fun
  | [d1, d2] => { results := [.lit (.bool false)], args := [d1, d2] }
  | _ => none }
def FnExactBrickWrongFalsely : Prop := fnExactBrickRow.holds Try.pinned (OpenSpec.ofChange fnExactBrickWrong)

/-- 'laws.FnExactWhere': WHATEVER THE INPUT: true; the input reads as it did. -/
def fnExactWhereSpec : ChangeSpec := { name := "fnExactWhere", fn := fun _ => fun
  | [d1, d2] => { results := [.lit (.bool true)], args := [d1, d2] }
  | _ => none }
def fnExactWhereRow : OpenClaim := { program := "ytndedincanmaeaa", sum := "8462bd1a5b8783e8249c92c71214d4acea58c7fb50c32254c753442903339194", func := "loop.example/g00125/laws.FnExactWhere", spec := "fnExactWhere", recurses := true, loops := true, apart := false }
def FnExactWhereSaid : Prop := fnExactWhereRow.holds Try.pinned (OpenSpec.ofChange fnExactWhereSpec)

/-- ITS FALSE NEIGHBOUR: 'it returns false'. Refute it at one input. -/
def fnExactWhereWrong : ChangeSpec := { name := "fnExactWhere", fn := fun _ => fun
  | [d1, d2] => { results := [.lit (.bool false)], args := [d1, d2] }
  | _ => none }
def FnExactWhereWrongFalsely : Prop := fnExactWhereRow.holds Try.pinned (OpenSpec.ofChange fnExactWhereWrong)

/-- 'laws.FnExactWedge': WHATEVER THE INPUT: true; the input reads as it did. -/
def fnExactWedgeSpec : ChangeSpec := { name := "fnExactWedge", fn := fun _ => fun
  | [d1, d2, d3] => { results := [.lit (.bool true)], args := [d1, d2, d3] }
  | _ => none }
def fnExactWedgeRow : OpenClaim := { program := "ytndedincanmaeaa", sum := "8462bd1a5b8783e8249c92c71214d4acea58c7fb50c32254c753442903339194", func := "loop.example/g00125/laws.FnExactWedge", spec := "fnExactWedge", recurses := true, apart := false }
def FnExactWedgeSaid : Prop := fnExactWedgeRow.holds Try.pinned (OpenSpec.ofChange fnExactWedgeSpec)

/-- ITS FALSE NEIGHBOUR: 'it returns false'. Refute it at one input. -/
def fnExactWedgeWrong : ChangeSpec := { name := "fnExactWedge", fn := fun _ => fun
  | [d1, d2, d3] => { results := [.lit (.bool false)], args := [d1, d2, d3] }
  | _ => none }
def FnExactWedgeWrongFalsely : Prop := fnExactWedgeRow.holds Try.pinned (OpenSpec.ofChange fnExactWedgeWrong)

/-- 'laws.FnExactCells': WHATEVER THE INPUT: true; the input reads as it did. -/
def fnExactCellsSpec : ChangeSpec := { name := "fnExactCells", fn := fun _ => fun
  | [d1, d2] => { results := [.lit (.bool true)], args := [d1, d2] }
  | _ => none }
def fnExactCellsRow : OpenClaim := { program := "ytndedincanmaeaa", sum := "8462bd1a5b8783e8249c92c71214d4acea58c7fb50c32254c753442903339194", func := "loop.example/g00125/laws.FnExactCells", spec := "fnExactCells", recurses := true, loops := true, apart := false }
def FnExactCellsSaid : Prop := fnExactCellsRow.holds Try.pinned (OpenSpec.ofChange fnExactCellsSpec)

/-- ITS FALSE NEIGHBOUR: 'it returns false'. Refute it at one input. -/
def fnExactCellsWrong : ChangeSpec := { name := "fnExactCells", fn := fun _ => fun
  | [d1, d2] => { results := [.lit (.bool false)], args := [d1, d2] }
  | _ => none }
def FnExactCellsWrongFalsely : Prop := fnExactCellsRow.holds Try.pinned (OpenSpec.ofChange fnExactCellsWrong)

/- THE SECOND FORM. 'bulk': how many values and letters a reading holds, each counted each time it is reached (what is shared counts as often as it is met; a slice's spare places count too). A statement '..UptoSaid' is the law's where the arguments, and the package variables that the reading takes, are together of bulk at most 1048576: NARROWER than '..Said'. Prove '..Said' where nothing that the law and all that it calls make is longer than what came in: it says more and counts as full. Else prove '..UptoSaid'. A law counts once. -/
mutual
def uptoBulk {H : Type} : DataW H → Nat
  | .lit (.string bytes) => bytes.length + 1
  | .lit _ => 1
  | .nil => 1
  | .ptr d => uptoBulk d + 1
  | .slice elems spare => uptoBulkAll elems + uptoBulkAll spare + 1
  | .agg parts => uptoBulkAll parts + 1
  | .iface _ d => uptoBulk d + 1
  | .map entries => uptoBulkEntries entries + 1
  | .held _ => 1
def uptoBulkAll {H : Type} : List (DataW H) → Nat
  | [] => 0
  | d :: r => uptoBulk d + uptoBulkAll r
def uptoBulkEntries {H : Type} : List (Lit × DataW H) → Nat
  | [] => 0
  | x :: r => uptoBulkEntry x + uptoBulkEntries r
def uptoBulkEntry {H : Type} : Lit × DataW H → Nat
  | (.string bytes, d) => bytes.length + uptoBulk d + 1
  | (_, d) => uptoBulk d + 1
 end
def uptoSmall : (H : Type) → List (DataW H) → Bool := fun _ ds => decide (uptoBulkAll ds ≤ 1048576)
def OpenSpec.upto (s : _root_.Go.ChangeSpec) : _root_.Go.OpenSpec := { _root_.Go.OpenSpec.ofChange s with cond := some uptoSmall }

/-- 'laws.FnExactLeaf', WHERE WHAT IT READS IS OF BULK AT MOST 1048576: true; the input reads as it did. -/
def fnExactLeafUptoRow : OpenClaim := { program := "ytndedincanmaeaa", sum := "8462bd1a5b8783e8249c92c71214d4acea58c7fb50c32254c753442903339194", func := "loop.example/g00125/laws.FnExactLeaf", spec := "fnExactLeaf", recurses := true, apart := false, narrowed := true }
def FnExactLeafUptoSaid : Prop := fnExactLeafUptoRow.holds Try.pinned (OpenSpec.upto fnExactLeafSpec)

/-- 'laws.FnExactSameTree', WHERE WHAT IT READS IS OF BULK AT MOST 1048576: true; the input reads as it did. -/
def fnExactSameTreeUptoRow : OpenClaim := { program := "ytndedincanmaeaa", sum := "8462bd1a5b8783e8249c92c71214d4acea58c7fb50c32254c753442903339194", func := "loop.example/g00125/laws.FnExactSameTree", spec := "fnExactSameTree", unfollowed := true, recurses := true, loops := true, apart := false, narrowed := true }
def FnExactSameTreeUptoSaid : Prop := fnExactSameTreeUptoRow.holds Try.pinned (OpenSpec.upto fnExactSameTreeSpec)

/-- 'laws.FnExactHalfOf', WHERE WHAT IT READS IS OF BULK AT MOST 1048576: true; the input reads as it did. -/
def fnExactHalfOfUptoRow : OpenClaim := { program := "ytndedincanmaeaa", sum := "8462bd1a5b8783e8249c92c71214d4acea58c7fb50c32254c753442903339194", func := "loop.example/g00125/laws.FnExactHalfOf", spec := "fnExactHalfOf", recurses := true, apart := false, narrowed := true }
def FnExactHalfOfUptoSaid : Prop := fnExactHalfOfUptoRow.holds Try.pinned (OpenSpec.upto fnExactHalfOfSpec)

/-- 'laws.FnExactShifted', WHERE WHAT IT READS IS OF BULK AT MOST 1048576: true; the input reads as it did. -/
def fnExactShiftedUptoRow : OpenClaim := { program := "ytndedincanmaeaa", sum := "8462bd1a5b8783e8249c92c71214d4acea58c7fb50c32254c753442903339194", func := "loop.example/g00125/laws.FnExactShifted", spec := "fnExactShifted", apart := false, narrowed := true }
def FnExactShiftedUptoSaid : Prop := fnExactShiftedUptoRow.holds Try.pinned (OpenSpec.upto fnExactShiftedSpec)

/-- 'laws.FnExactOpen', WHERE WHAT IT READS IS OF BULK AT MOST 1048576: true; the input reads as it did. -/
def fnExactOpenUptoRow : OpenClaim := { program := "ytndedincanmaeaa", sum := "8462bd1a5b8783e8249c92c71214d4acea58c7fb50c32254c753442903339194", func := "loop.example/g00125/laws.FnExactOpen", spec := "fnExactOpen", apart := false, narrowed := true }
def FnExactOpenUptoSaid : Prop := fnExactOpenUptoRow.holds Try.pinned (OpenSpec.upto fnExactOpenSpec)

/-- 'laws.FnExactOpenWith', WHERE WHAT IT READS IS OF BULK AT MOST 1048576: true; the input reads as it did. -/
def fnExactOpenWithUptoRow : OpenClaim := { program := "ytndedincanmaeaa", sum := "8462bd1a5b8783e8249c92c71214d4acea58c7fb50c32254c753442903339194", func := "loop.example/g00125/laws.FnExactOpenWith", spec := "fnExactOpenWith", apart := false, narrowed := true }
def FnExactOpenWithUptoSaid : Prop := fnExactOpenWithUptoRow.holds Try.pinned (OpenSpec.upto fnExactOpenWithSpec)

/-- 'laws.FnExactSplits', WHERE WHAT IT READS IS OF BULK AT MOST 1048576: true; the input reads as it did. -/
def fnExactSplitsUptoRow : OpenClaim := { program := "ytndedincanmaeaa", sum := "8462bd1a5b8783e8249c92c71214d4acea58c7fb50c32254c753442903339194", func := "loop.example/g00125/laws.FnExactSplits", spec := "fnExactSplits", apart := false, narrowed := true }
def FnExactSplitsUptoSaid : Prop := fnExactSplitsUptoRow.holds Try.pinned (OpenSpec.upto fnExactSplitsSpec)

/-- 'laws.FnExactSolidOk', WHERE WHAT IT READS IS OF BULK AT MOST 1048576: true; the input reads as it did. -/
def fnExactSolidOkUptoRow : OpenClaim := { program := "ytndedincanmaeaa", sum := "8462bd1a5b8783e8249c92c71214d4acea58c7fb50c32254c753442903339194", func := "loop.example/g00125/laws.FnExactSolidOk", spec := "fnExactSolidOk", recurses := true, loops := true, apart := false, narrowed := true }
def FnExactSolidOkUptoSaid : Prop := fnExactSolidOkUptoRow.holds Try.pinned (OpenSpec.upto fnExactSolidOkSpec)

/-- 'laws.FnExactInCell', WHERE WHAT IT READS IS OF BULK AT MOST 1048576: true; the input reads as it did. -/
def fnExactInCellUptoRow : OpenClaim := { program := "ytndedincanmaeaa", sum := "8462bd1a5b8783e8249c92c71214d4acea58c7fb50c32254c753442903339194", func := "loop.example/g00125/laws.FnExactInCell", spec := "fnExactInCell", apart := false, narrowed := true }
def FnExactInCellUptoSaid : Prop := fnExactInCellUptoRow.holds Try.pinned (OpenSpec.upto fnExactInCellSpec)

/-- 'laws.FnExactNodesOf', WHERE WHAT IT READS IS OF BULK AT MOST 1048576: true; the input reads as it did. -/
def fnExactNodesOfUptoRow : OpenClaim := { program := "ytndedincanmaeaa", sum := "8462bd1a5b8783e8249c92c71214d4acea58c7fb50c32254c753442903339194", func := "loop.example/g00125/laws.FnExactNodesOf", spec := "fnExactNodesOf", recurses := true, loops := true, apart := false, narrowed := true }
def FnExactNodesOfUptoSaid : Prop := fnExactNodesOfUptoRow.holds Try.pinned (OpenSpec.upto fnExactNodesOfSpec)

/-- 'laws.FnExactDepthOf', WHERE WHAT IT READS IS OF BULK AT MOST 1048576: true; the input reads as it did. -/
def fnExactDepthOfUptoRow : OpenClaim := { program := "ytndedincanmaeaa", sum := "8462bd1a5b8783e8249c92c71214d4acea58c7fb50c32254c753442903339194", func := "loop.example/g00125/laws.FnExactDepthOf", spec := "fnExactDepthOf", recurses := true, loops := true, apart := false, narrowed := true }
def FnExactDepthOfUptoSaid : Prop := fnExactDepthOfUptoRow.holds Try.pinned (OpenSpec.upto fnExactDepthOfSpec)

/-- 'laws.FnExactBounded', WHERE WHAT IT READS IS OF BULK AT MOST 1048576: true; the input reads as it did. -/
def fnExactBoundedUptoRow : OpenClaim := { program := "ytndedincanmaeaa", sum := "8462bd1a5b8783e8249c92c71214d4acea58c7fb50c32254c753442903339194", func := "loop.example/g00125/laws.FnExactBounded", spec := "fnExactBounded", apart := false, narrowed := true }
def FnExactBoundedUptoSaid : Prop := fnExactBoundedUptoRow.holds Try.pinned (OpenSpec.upto fnExactBoundedSpec)

/-- 'laws.FnExactNeeded', WHERE WHAT IT READS IS OF BULK AT MOST 1048576: true; the input reads as it did. -/
def fnExactNeededUptoRow : OpenClaim := { program := "ytndedincanmaeaa", sum := "8462bd1a5b8783e8249c92c71214d4acea58c7fb50c32254c753442903339194", func := "loop.example/g00125/laws.FnExactNeeded", spec := "fnExactNeeded", apart := false, narrowed := true }
def FnExactNeededUptoSaid : Prop := fnExactNeededUptoRow.holds Try.pinned (OpenSpec.upto fnExactNeededSpec)

/-- 'laws.FnExactAround', WHERE WHAT IT READS IS OF BULK AT MOST 1048576: true; the input reads as it did. -/
def fnExactAroundUptoRow : OpenClaim := { program := "ytndedincanmaeaa", sum := "8462bd1a5b8783e8249c92c71214d4acea58c7fb50c32254c753442903339194", func := "loop.example/g00125/laws.FnExactAround", spec := "fnExactAround", recurses := true, loops := true, apart := false, narrowed := true }
def FnExactAroundUptoSaid : Prop := fnExactAroundUptoRow.holds Try.pinned (OpenSpec.upto fnExactAroundSpec)

/-- 'laws.FnExactConvex', WHERE WHAT IT READS IS OF BULK AT MOST 1048576: true; the input reads as it did. -/
def fnExactConvexUptoRow : OpenClaim := { program := "ytndedincanmaeaa", sum := "8462bd1a5b8783e8249c92c71214d4acea58c7fb50c32254c753442903339194", func := "loop.example/g00125/laws.FnExactConvex", spec := "fnExactConvex", recurses := true, apart := false, narrowed := true }
def FnExactConvexUptoSaid : Prop := fnExactConvexUptoRow.holds Try.pinned (OpenSpec.upto fnExactConvexSpec)

/-- 'laws.FnExactBrick', WHERE WHAT IT READS IS OF BULK AT MOST 1048576: true; the input reads as it did. -/
def fnExactBrickUptoRow : OpenClaim := { program := "ytndedincanmaeaa", sum := "8462bd1a5b8783e8249c92c71214d4acea58c7fb50c32254c753442903339194", func := "loop.example/g00125/laws.FnExactBrick", spec := "fnExactBrick", recurses := true, apart := false, narrowed := true }
def FnExactBrickUptoSaid : Prop := fnExactBrickUptoRow.holds Try.pinned (OpenSpec.upto fnExactBrickSpec)

/-- 'laws.FnExactWhere', WHERE WHAT IT READS IS OF BULK AT MOST 1048576: true; the input reads as it did. -/
def fnExactWhereUptoRow : OpenClaim := { program := "ytndedincanmaeaa", sum := "8462bd1a5b8783e8249c92c71214d4acea58c7fb50c32254c753442903339194", func := "loop.example/g00125/laws.FnExactWhere", spec := "fnExactWhere", recurses := true, loops := true, apart := false, narrowed := true }
def FnExactWhereUptoSaid : Prop := fnExactWhereUptoRow.holds Try.pinned (OpenSpec.upto fnExactWhereSpec)

/-- 'laws.FnExactWedge', WHERE WHAT IT READS IS OF BULK AT MOST 1048576: true; the input reads as it did. -/
def fnExactWedgeUptoRow : OpenClaim := { program := "ytndedincanmaeaa", sum := "8462bd1a5b8783e8249c92c71214d4acea58c7fb50c32254c753442903339194", func := "loop.example/g00125/laws.FnExactWedge", spec := "fnExactWedge", recurses := true, apart := false, narrowed := true }
def FnExactWedgeUptoSaid : Prop := fnExactWedgeUptoRow.holds Try.pinned (OpenSpec.upto fnExactWedgeSpec)

/-- 'laws.FnExactCells', WHERE WHAT IT READS IS OF BULK AT MOST 1048576: true; the input reads as it did. -/
def fnExactCellsUptoRow : OpenClaim := { program := "ytndedincanmaeaa", sum := "8462bd1a5b8783e8249c92c71214d4acea58c7fb50c32254c753442903339194", func := "loop.example/g00125/laws.FnExactCells", spec := "fnExactCells", recurses := true, loops := true, apart := false, narrowed := true }
def FnExactCellsUptoSaid : Prop := fnExactCellsUptoRow.holds Try.pinned (OpenSpec.upto fnExactCellsSpec)

end Rows
end Go.Proofs.Ytndedincanmaeaa
