/-
  NARROWER THAN 'FOR EVERY INPUT', by the rows' own cells (each row's printed sentence says how): FnExactSameTree: loops · FnExactSolidOk: loops · FnExactNodesOf: loops · FnExactDepthOf: loops · FnExactAround: loops · FnExactWhere: loops · FnExactCells: loops.
  DERIVED. THE GIVEN ROWS OF THIS SEAT. 12 by the template 'for every input the law returns true; each argument reads behind the call as it read before'; 0 by the template 'total and deterministic' (their statements: YtfgaeenlnkioaaaTotals.lean).
  GIVEN WITH THE SEED: the statements are not yours to turn. If you find one false, say at which input.
  Laid BY PROGRAM, IN A SANDBOX (cutbox-rows.mjs): the forced cells as the released guide's own fill.sh prints them over the translation 9273b3c22df4466c… (all of the seat's roots in one cut). By AI agents, Wed Nov 11 2026. No macro, syntax, notation, axiom, sorry.
-/
import Derived.Test.YtfgaeenlnkioaaaChecked
import GoSem.Claim
import GoSem.ClaimJoined
import GoSem.ClaimMapViews
import Derived.JoinedTies
import Derived.KernelRfl
namespace Go.Proofs.Ytfgaeenlnkioaaa
/- THE CELL 'sum', in the pinned program and in every row, IS THE sha256 OF THE DUMP (.gsa) THAT YtfgaeenlnkioaaaProg.lean LOADS. Nothing in Lean hashes anything: it is a label: what it is worth is what the hold of that sum in a sandbox is worth. -/
noncomputable def Try.pinned : Pinned := { name := "ytfgaeenlnkioaaa", sum := "9273b3c22df4466cf7fe53bcea6007f5741ee322444c1ad1a6cba7db3416fd02", checked := Try.checked }
namespace Rows
def none {H : Type} : Left H := { results := [], args := [] }

/-- 'laws.FnExactHalfOf': WHATEVER THE INPUT: true; the input reads as it did. -/
def fnExactHalfOfSpec : ChangeSpec := { name := "fnExactHalfOf", fn := fun _ => fun
  | [d] => { results := [.lit (.bool true)], args := [d] }
  | _ => none }
def fnExactHalfOfRow : OpenClaim := { program := "ytfgaeenlnkioaaa", sum := "9273b3c22df4466cf7fe53bcea6007f5741ee322444c1ad1a6cba7db3416fd02", func := "loop.example/g00125/laws.FnExactHalfOf", spec := "fnExactHalfOf", recurses := true, apart := false }
def FnExactHalfOfSaid : Prop := fnExactHalfOfRow.holds Try.pinned (OpenSpec.ofChange fnExactHalfOfSpec)

/-- ITS FALSE NEIGHBOUR: 'it returns false'. Refute it at one input. -/
def fnExactHalfOfWrong : ChangeSpec := { name := "fnExactHalfOf", fn := fun _ => fun
  | [d] => { results := [.lit (.bool false)], args := [d] }
  | _ => none }
def FnExactHalfOfWrongFalsely : Prop := fnExactHalfOfRow.holds Try.pinned (OpenSpec.ofChange fnExactHalfOfWrong)

/-- 'laws.FnExactSameTree': WHATEVER THE INPUT: true; the input reads as it did. -/
def fnExactSameTreeSpec : ChangeSpec := { name := "fnExactSameTree", fn := fun _ => fun
  | [d1, d2] => { results := [.lit (.bool true)], args := [d1, d2] }
  | _ => none }
def fnExactSameTreeRow : OpenClaim := { program := "ytfgaeenlnkioaaa", sum := "9273b3c22df4466cf7fe53bcea6007f5741ee322444c1ad1a6cba7db3416fd02", func := "loop.example/g00125/laws.FnExactSameTree", spec := "fnExactSameTree", unfollowed := true, recurses := true, loops := true, apart := false }
def FnExactSameTreeSaid : Prop := fnExactSameTreeRow.holds Try.pinned (OpenSpec.ofChange fnExactSameTreeSpec)

/-- ITS FALSE NEIGHBOUR: 'it returns false'. Refute it at one input. -/
def fnExactSameTreeWrong : ChangeSpec := { name := "fnExactSameTree", fn := fun _ => fun
  | [d1, d2] => { results := [.lit (.bool false)], args := [d1, d2] }
  | _ => none }
def FnExactSameTreeWrongFalsely : Prop := fnExactSameTreeRow.holds Try.pinned (OpenSpec.ofChange fnExactSameTreeWrong)

/-- 'laws.FnExactSolidOk': WHATEVER THE INPUT: true; the input reads as it did. -/
def fnExactSolidOkSpec : ChangeSpec := { name := "fnExactSolidOk", fn := fun _ => fun
  | [d] => { results := [.lit (.bool true)], args := [d] }
  | _ => none }
def fnExactSolidOkRow : OpenClaim := { program := "ytfgaeenlnkioaaa", sum := "9273b3c22df4466cf7fe53bcea6007f5741ee322444c1ad1a6cba7db3416fd02", func := "loop.example/g00125/laws.FnExactSolidOk", spec := "fnExactSolidOk", recurses := true, loops := true, apart := false }
def FnExactSolidOkSaid : Prop := fnExactSolidOkRow.holds Try.pinned (OpenSpec.ofChange fnExactSolidOkSpec)

/-- ITS FALSE NEIGHBOUR: 'it returns false'. Refute it at one input. -/
def fnExactSolidOkWrong : ChangeSpec := { name := "fnExactSolidOk", fn := fun _ => fun
  | [d] => { results := [.lit (.bool false)], args := [d] }
  | _ => none }
def FnExactSolidOkWrongFalsely : Prop := fnExactSolidOkRow.holds Try.pinned (OpenSpec.ofChange fnExactSolidOkWrong)

/-- 'laws.FnExactNodesOf': WHATEVER THE INPUT: true; the input reads as it did. -/
def fnExactNodesOfSpec : ChangeSpec := { name := "fnExactNodesOf", fn := fun _ => fun
  | [d] => { results := [.lit (.bool true)], args := [d] }
  | _ => none }
def fnExactNodesOfRow : OpenClaim := { program := "ytfgaeenlnkioaaa", sum := "9273b3c22df4466cf7fe53bcea6007f5741ee322444c1ad1a6cba7db3416fd02", func := "loop.example/g00125/laws.FnExactNodesOf", spec := "fnExactNodesOf", recurses := true, loops := true, apart := false }
def FnExactNodesOfSaid : Prop := fnExactNodesOfRow.holds Try.pinned (OpenSpec.ofChange fnExactNodesOfSpec)

/-- ITS FALSE NEIGHBOUR: 'it returns false'. Refute it at one input. -/
def fnExactNodesOfWrong : ChangeSpec := { name := "fnExactNodesOf", fn := fun _ => fun
  | [d] => { results := [.lit (.bool false)], args := [d] }
  | _ => none }
def FnExactNodesOfWrongFalsely : Prop := fnExactNodesOfRow.holds Try.pinned (OpenSpec.ofChange fnExactNodesOfWrong)

/-- 'laws.FnExactDepthOf': WHATEVER THE INPUT: true; the input reads as it did. -/
def fnExactDepthOfSpec : ChangeSpec := { name := "fnExactDepthOf", fn := fun _ => fun
  | [d] => { results := [.lit (.bool true)], args := [d] }
  | _ => none }
def fnExactDepthOfRow : OpenClaim := { program := "ytfgaeenlnkioaaa", sum := "9273b3c22df4466cf7fe53bcea6007f5741ee322444c1ad1a6cba7db3416fd02", func := "loop.example/g00125/laws.FnExactDepthOf", spec := "fnExactDepthOf", recurses := true, loops := true, apart := false }
def FnExactDepthOfSaid : Prop := fnExactDepthOfRow.holds Try.pinned (OpenSpec.ofChange fnExactDepthOfSpec)

/-- ITS FALSE NEIGHBOUR: 'it returns false'. Refute it at one input. -/
def fnExactDepthOfWrong : ChangeSpec := { name := "fnExactDepthOf", fn := fun _ => fun
  | [d] => { results := [.lit (.bool false)], args := [d] }
  | _ => none }
def FnExactDepthOfWrongFalsely : Prop := fnExactDepthOfRow.holds Try.pinned (OpenSpec.ofChange fnExactDepthOfWrong)

/-- 'laws.FnExactBlame': WHATEVER THE INPUT: true; the input reads as it did. -/
def fnExactBlameSpec : ChangeSpec := { name := "fnExactBlame", fn := fun _ => fun
  | [d] => { results := [.lit (.bool true)], args := [d] }
  | _ => none }
def fnExactBlameRow : OpenClaim := { program := "ytfgaeenlnkioaaa", sum := "9273b3c22df4466cf7fe53bcea6007f5741ee322444c1ad1a6cba7db3416fd02", func := "loop.example/g00125/laws.FnExactBlame", spec := "fnExactBlame", apart := false }
def FnExactBlameSaid : Prop := fnExactBlameRow.holds Try.pinned (OpenSpec.ofChange fnExactBlameSpec)

/-- ITS FALSE NEIGHBOUR: 'it returns false'. Refute it at one input. -/
def fnExactBlameWrong : ChangeSpec := { name := "fnExactBlame", fn := fun _ => fun
  | [d] => { results := [.lit (.bool false)], args := [d] }
  | _ => none }
def FnExactBlameWrongFalsely : Prop := fnExactBlameRow.holds Try.pinned (OpenSpec.ofChange fnExactBlameWrong)

/-- 'laws.FnExactAround': WHATEVER THE INPUT: true; the input reads as it did. -/
def fnExactAroundSpec : ChangeSpec := { name := "fnExactAround", fn := fun _ => fun
  | [d1, d2] => { results := [.lit (.bool true)], args := [d1, d2] }
  | _ => none }
def fnExactAroundRow : OpenClaim := { program := "ytfgaeenlnkioaaa", sum := "9273b3c22df4466cf7fe53bcea6007f5741ee322444c1ad1a6cba7db3416fd02", func := "loop.example/g00125/laws.FnExactAround", spec := "fnExactAround", recurses := true, loops := true, apart := false }
def FnExactAroundSaid : Prop := fnExactAroundRow.holds Try.pinned (OpenSpec.ofChange fnExactAroundSpec)

/-- ITS FALSE NEIGHBOUR: 'it returns false'. Refute it at one input. -/
def fnExactAroundWrong : ChangeSpec := { name := "fnExactAround", fn := fun _ => fun
  | [d1, d2] => { results := [.lit (.bool false)], args := [d1, d2] }
  | _ => none }
def FnExactAroundWrongFalsely : Prop := fnExactAroundRow.holds Try.pinned (OpenSpec.ofChange fnExactAroundWrong)

/-- 'laws.FnExactConvex': WHATEVER THE INPUT: true; the input reads as it did. -/
def fnExactConvexSpec : ChangeSpec := { name := "fnExactConvex", fn := fun _ => fun
  | [d] => { results := [.lit (.bool true)], args := [d] }
  | _ => none }
def fnExactConvexRow : OpenClaim := { program := "ytfgaeenlnkioaaa", sum := "9273b3c22df4466cf7fe53bcea6007f5741ee322444c1ad1a6cba7db3416fd02", func := "loop.example/g00125/laws.FnExactConvex", spec := "fnExactConvex", recurses := true, apart := false }
def FnExactConvexSaid : Prop := fnExactConvexRow.holds Try.pinned (OpenSpec.ofChange fnExactConvexSpec)

/-- ITS FALSE NEIGHBOUR: 'it returns false'. Refute it at one input. -/
def fnExactConvexWrong : ChangeSpec := { name := "fnExactConvex", fn := fun _ => fun
  | [d] => { results := [.lit (.bool false)], args := [d] }
  | _ => none }
def FnExactConvexWrongFalsely : Prop := fnExactConvexRow.holds Try.pinned (OpenSpec.ofChange fnExactConvexWrong)

/-- 'laws.FnExactBrick': WHATEVER THE INPUT: true; the input reads as it did. -/
def fnExactBrickSpec : ChangeSpec := { name := "fnExactBrick", fn := fun _ => fun
  | [d1, d2] => { results := [.lit (.bool true)], args := [d1, d2] }
  | _ => none }
def fnExactBrickRow : OpenClaim := { program := "ytfgaeenlnkioaaa", sum := "9273b3c22df4466cf7fe53bcea6007f5741ee322444c1ad1a6cba7db3416fd02", func := "loop.example/g00125/laws.FnExactBrick", spec := "fnExactBrick", recurses := true, apart := false }
def FnExactBrickSaid : Prop := fnExactBrickRow.holds Try.pinned (OpenSpec.ofChange fnExactBrickSpec)

/-- ITS FALSE NEIGHBOUR: 'it returns false'. Refute it at one input. -/
def fnExactBrickWrong : ChangeSpec := { name := "fnExactBrick", fn := fun _ => fun
  | [d1, d2] => { results := [.lit (.bool false)], args := [d1, d2] }
  | _ => none }
def FnExactBrickWrongFalsely : Prop := fnExactBrickRow.holds Try.pinned (OpenSpec.ofChange fnExactBrickWrong)

/-- 'laws.FnExactWhere': WHATEVER THE INPUT: true; the input reads as it did. -/
def fnExactWhereSpec : ChangeSpec := { name := "fnExactWhere", fn := fun _ => fun
  | [d1, d2] => { results := [.lit (.bool true)], args := [d1, d2] }
  | _ => none }
def fnExactWhereRow : OpenClaim := { program := "ytfgaeenlnkioaaa", sum := "9273b3c22df4466cf7fe53bcea6007f5741ee322444c1ad1a6cba7db3416fd02", func := "loop.example/g00125/laws.FnExactWhere", spec := "fnExactWhere", recurses := true, loops := true, apart := false }
def FnExactWhereSaid : Prop := fnExactWhereRow.holds Try.pinned (OpenSpec.ofChange fnExactWhereSpec)

/-- ITS FALSE NEIGHBOUR: 'it returns false'. Refute it at one input. -/
def fnExactWhereWrong : ChangeSpec := { name := "fnExactWhere", fn := fun _ => fun
  | [d1, d2] => { results := [.lit (.bool false)], args := [d1, d2] }
  | _ => none }
def FnExactWhereWrongFalsely : Prop := fnExactWhereRow.holds Try.pinned (OpenSpec.ofChange fnExactWhereWrong)

/-- 'laws.FnExactWedge': WHATEVER THE INPUT: true; the input reads as it did. -/
def fnExactWedgeSpec : ChangeSpec := { name := "fnExactWedge", fn := fun _ => fun
  | [d1, d2, d3] => { results := [.lit (.bool true)], args := [d1, d2, d3] }
  | _ => none }
def fnExactWedgeRow : OpenClaim := { program := "ytfgaeenlnkioaaa", sum := "9273b3c22df4466cf7fe53bcea6007f5741ee322444c1ad1a6cba7db3416fd02", func := "loop.example/g00125/laws.FnExactWedge", spec := "fnExactWedge", recurses := true, apart := false }
def FnExactWedgeSaid : Prop := fnExactWedgeRow.holds Try.pinned (OpenSpec.ofChange fnExactWedgeSpec)

/-- ITS FALSE NEIGHBOUR: 'it returns false'. Refute it at one input. -/
def fnExactWedgeWrong : ChangeSpec := { name := "fnExactWedge", fn := fun _ => fun
  | [d1, d2, d3] => { results := [.lit (.bool false)], args := [d1, d2, d3] }
  | _ => none }
def FnExactWedgeWrongFalsely : Prop := fnExactWedgeRow.holds Try.pinned (OpenSpec.ofChange fnExactWedgeWrong)

/-- 'laws.FnExactCells': WHATEVER THE INPUT: true; the input reads as it did. -/
def fnExactCellsSpec : ChangeSpec := { name := "fnExactCells", fn := fun _ => fun
  | [d1, d2] => { results := [.lit (.bool true)], args := [d1, d2] }
  | _ => none }
def fnExactCellsRow : OpenClaim := { program := "ytfgaeenlnkioaaa", sum := "9273b3c22df4466cf7fe53bcea6007f5741ee322444c1ad1a6cba7db3416fd02", func := "loop.example/g00125/laws.FnExactCells", spec := "fnExactCells", recurses := true, loops := true, apart := false }
def FnExactCellsSaid : Prop := fnExactCellsRow.holds Try.pinned (OpenSpec.ofChange fnExactCellsSpec)

/-- ITS FALSE NEIGHBOUR: 'it returns false'. Refute it at one input. -/
def fnExactCellsWrong : ChangeSpec := { name := "fnExactCells", fn := fun _ => fun
  | [d1, d2] => { results := [.lit (.bool false)], args := [d1, d2] }
  | _ => none }
def FnExactCellsWrongFalsely : Prop := fnExactCellsRow.holds Try.pinned (OpenSpec.ofChange fnExactCellsWrong)

/- THE SECOND FORM. 'bulk': how many values and letters a reading holds, each counted each time it is reached (what is shared counts as often as it is met; a slice's spare places count too). A statement '..UptoSaid' is the law's where the arguments, and the package variables that the reading takes, are together of bulk at most 1048576: NARROWER than '..Said'. Prove '..Said' where nothing that the law and all that it calls make is longer than what came in: it says more and counts as full. Else prove '..UptoSaid'. A law counts once. -/
mutual
def uptoBulk {H : Type} : DataW H → Nat
  | .lit (.string bytes) => bytes.length + 1
  | .lit _ => 1
  | .nil => 1
  | .ptr d => uptoBulk d + 1
  | .slice elems spare => uptoBulkAll elems + uptoBulkAll spare + 1
  | .agg parts => uptoBulkAll parts + 1
  | .iface _ d => uptoBulk d + 1
  | .map entries => uptoBulkEntries entries + 1
  | .held _ => 1
def uptoBulkAll {H : Type} : List (DataW H) → Nat
  | [] => 0
  | d :: r => uptoBulk d + uptoBulkAll r
def uptoBulkEntries {H : Type} : List (Lit × DataW H) → Nat
  | [] => 0
  | x :: r => uptoBulkEntry x + uptoBulkEntries r
def uptoBulkEntry {H : Type} : Lit × DataW H → Nat
  | (.string bytes, d) => bytes.length + uptoBulk d + 1
  | (_, d) => uptoBulk d + 1
 end
def uptoSmall : (H : Type) → List (DataW H) → Bool := fun _ ds => decide (uptoBulkAll ds ≤ 1048576)
def OpenSpec.upto (s : _root_.Go.ChangeSpec) : _root_.Go.OpenSpec := { _root_.Go.OpenSpec.ofChange s with cond := some uptoSmall }

/-- 'laws.FnExactHalfOf', WHERE WHAT IT READS IS OF BULK AT MOST 1048576: true; the input reads as it did. -/
def fnExactHalfOfUptoRow : OpenClaim := { program := "ytfgaeenlnkioaaa", sum := "9273b3c22df4466cf7fe53bcea6007f5741ee322444c1ad1a6cba7db3416fd02", func := "loop.example/g00125/laws.FnExactHalfOf", spec := "fnExactHalfOf", recurses := true, apart := false, narrowed := true }
def FnExactHalfOfUptoSaid : Prop := fnExactHalfOfUptoRow.holds Try.pinned (OpenSpec.upto fnExactHalfOfSpec)

/-- 'laws.FnExactSameTree', WHERE WHAT IT READS IS OF BULK AT MOST 1048576: true; the input reads as it did. -/
def fnExactSameTreeUptoRow : OpenClaim := { program := "ytfgaeenlnkioaaa", sum := "9273b3c22df4466cf7fe53bcea6007f5741ee322444c1ad1a6cba7db3416fd02", func := "loop.example/g00125/laws.FnExactSameTree", spec := "fnExactSameTree", unfollowed := true, recurses := true, loops := true, apart := false, narrowed := true }
def FnExactSameTreeUptoSaid : Prop := fnExactSameTreeUptoRow.holds Try.pinned (OpenSpec.upto fnExactSameTreeSpec)

/-- 'laws.FnExactSolidOk', WHERE WHAT IT READS IS OF BULK AT MOST 1048576: true; the input reads as it did. -/
def fnExactSolidOkUptoRow : OpenClaim := { program := "ytfgaeenlnkioaaa", sum := "9273b3c22df4466cf7fe53bcea6007f5741ee322444c1ad1a6cba7db3416fd02", func := "loop.example/g00125/laws.FnExactSolidOk", spec := "fnExactSolidOk", recurses := true, loops := true, apart := false, narrowed := true }
def FnExactSolidOkUptoSaid : Prop := fnExactSolidOkUptoRow.holds Try.pinned (OpenSpec.upto fnExactSolidOkSpec)

/-- 'laws.FnExactNodesOf', WHERE WHAT IT READS IS OF BULK AT MOST 1048576: true; the input reads as it did. -/
def fnExactNodesOfUptoRow : OpenClaim := { program := "ytfgaeenlnkioaaa", sum := "9273b3c22df4466cf7fe53bcea6007f5741ee322444c1ad1a6cba7db3416fd02", func := "loop.example/g00125/laws.FnExactNodesOf", spec := "fnExactNodesOf", recurses := true, loops := true, apart := false, narrowed := true }
def FnExactNodesOfUptoSaid : Prop := fnExactNodesOfUptoRow.holds Try.pinned (OpenSpec.upto fnExactNodesOfSpec)

/-- 'laws.FnExactDepthOf', WHERE WHAT IT READS IS OF BULK AT MOST 1048576: true; the input reads as it did. -/
def fnExactDepthOfUptoRow : OpenClaim := { program := "ytfgaeenlnkioaaa", sum := "9273b3c22df4466cf7fe53bcea6007f5741ee322444c1ad1a6cba7db3416fd02", func := "loop.example/g00125/laws.FnExactDepthOf", spec := "fnExactDepthOf", recurses := true, loops := true, apart := false, narrowed := true }
def FnExactDepthOfUptoSaid : Prop := fnExactDepthOfUptoRow.holds Try.pinned (OpenSpec.upto fnExactDepthOfSpec)

/-- 'laws.FnExactBlame', WHERE WHAT IT READS IS OF BULK AT MOST 1048576: true; the input reads as it did. -/
def fnExactBlameUptoRow : OpenClaim := { program := "ytfgaeenlnkioaaa", sum := "9273b3c22df4466cf7fe53bcea6007f5741ee322444c1ad1a6cba7db3416fd02", func := "loop.example/g00125/laws.FnExactBlame", spec := "fnExactBlame", apart := false, narrowed := true }
def FnExactBlameUptoSaid : Prop := fnExactBlameUptoRow.holds Try.pinned (OpenSpec.upto fnExactBlameSpec)

/-- 'laws.FnExactAround', WHERE WHAT IT READS IS OF BULK AT MOST 1048576: true; the input reads as it did. -/
def fnExactAroundUptoRow : OpenClaim := { program := "ytfgaeenlnkioaaa", sum := "9273b3c22df4466cf7fe53bcea6007f5741ee322444c1ad1a6cba7db3416fd02", func := "loop.example/g00125/laws.FnExactAround", spec := "fnExactAround", recurses := true, loops := true, apart := false, narrowed := true }
def FnExactAroundUptoSaid : Prop := fnExactAroundUptoRow.holds Try.pinned (OpenSpec.upto fnExactAroundSpec)

/-- 'laws.FnExactConvex', WHERE WHAT IT READS IS OF BULK AT MOST 1048576: true; the input reads as it did. -/
def fnExactConvexUptoRow : OpenClaim := { program := "ytfgaeenlnkioaaa", sum := "9273b3c22df4466cf7fe53bcea6007f5741ee322444c1ad1a6cba7db3416fd02", func := "loop.example/g00125/laws.FnExactConvex", spec := "fnExactConvex", recurses := true, apart := false, narrowed := true }
def FnExactConvexUptoSaid : Prop := fnExactConvexUptoRow.holds Try.pinned (OpenSpec.upto fnExactConvexSpec)

/-- 'laws.FnExactBrick', WHERE WHAT IT READS IS OF BULK AT MOST 1048576: true; the input reads as it did. -/
def fnExactBrickUptoRow : OpenClaim := { program := "ytfgaeenlnkioaaa", sum := "9273b3c22df4466cf7fe53bcea6007f5741ee322444c1ad1a6cba7db3416fd02", func := "loop.example/g00125/laws.FnExactBrick", spec := "fnExactBrick", recurses := true, apart := false, narrowed := true }
def FnExactBrickUptoSaid : Prop := fnExactBrickUptoRow.holds Try.pinned (OpenSpec.upto fnExactBrickSpec)

/-- 'laws.FnExactWhere', WHERE WHAT IT READS IS OF BULK AT MOST 1048576: true; the input reads as it did. -/
def fnExactWhereUptoRow : OpenClaim := { program := "ytfgaeenlnkioaaa", sum := "9273b3c22df4466cf7fe53bcea6007f5741ee322444c1ad1a6cba7db3416fd02", func := "loop.example/g00125/laws.FnExactWhere", spec := "fnExactWhere", recurses := true, loops := true, apart := false, narrowed := true }
def FnExactWhereUptoSaid : Prop := fnExactWhereUptoRow.holds Try.pinned (OpenSpec.upto fnExactWhereSpec)

/-- 'laws.FnExactWedge', WHERE WHAT IT READS IS OF BULK AT MOST 1048576: true; the input reads as it did. -/
def fnExactWedgeUptoRow : OpenClaim := { program := "ytfgaeenlnkioaaa", sum := "9273b3c22df4466cf7fe53bcea6007f5741ee322444c1ad1a6cba7db3416fd02", func := "loop.example/g00125/laws.FnExactWedge", spec := "fnExactWedge", recurses := true, apart := false, narrowed := true }
def FnExactWedgeUptoSaid : Prop := fnExactWedgeUptoRow.holds Try.pinned (OpenSpec.upto fnExactWedgeSpec)

/-- 'laws.FnExactCells', WHERE WHAT IT READS IS OF BULK AT MOST 1048576: true; the input reads as it did. -/
def fnExactCellsUptoRow : OpenClaim := { program := "ytfgaeenlnkioaaa", sum := "9273b3c22df4466cf7fe53bcea6007f5741ee322444c1ad1a6cba7db3416fd02", func := "loop.example/g00125/laws.FnExactCells", spec := "fnExactCells", recurses := true, loops := true, apart := false, narrowed := true }
def FnExactCellsUptoSaid : Prop := fnExactCellsUptoRow.holds Try.pinned (OpenSpec.upto fnExactCellsSpec)

end Rows
end Go.Proofs.Ytfgaeenlnkioaaa
