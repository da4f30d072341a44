/-
  No cell of these rows narrows 'for every input' (looked for: loops, veiled, ifaces, maps, wideKeys, modest, calm, conditions, laid).
  DERIVED. THE GIVEN ROWS OF THIS SEAT. 26 by the template 'for every input the law returns true; each argument reads behind the call as it read before'; 0 by the template 'total and deterministic' (their statements: YtmcjkdbegkdhoaaTotals.lean).
  GIVEN WITH THE SEED: the statements are not yours to turn. If you find one false, say at which input.
  Laid BY PROGRAM, IN A SANDBOX (cutbox-rows.mjs): the forced cells as the released guide's own fill.sh prints them over the translation 4827565e725b8d87… (all of the seat's roots in one cut). By AI agents, Wed Nov 11 2026. No macro, syntax, notation, axiom, sorry.
-/
import Derived.Test.YtmcjkdbegkdhoaaChecked
import GoSem.Claim
import GoSem.ClaimJoined
import GoSem.ClaimMapViews
import Derived.JoinedTies
import Derived.KernelRfl
namespace Go.Proofs.Ytmcjkdbegkdhoaa
/- THE CELL 'sum', in the pinned program and in every row, IS THE sha256 OF THE DUMP (.gsa) THAT YtmcjkdbegkdhoaaProg.lean LOADS. Nothing in Lean hashes anything: it is a label: what it is worth is what the hold of that sum in a sandbox is worth. -/
noncomputable def Try.pinned : Pinned := { name := "ytmcjkdbegkdhoaa", sum := "4827565e725b8d8704e397bf75def79778542717f200ebb23564bced3260b886", checked := Try.checked }
namespace Rows
def none {H : Type} : Left H := { results := [], args := [] }

/-- 'laws.FnExactConstants': WHATEVER THE INPUT: true; the input reads as it did. -/
def fnExactConstantsSpec : ChangeSpec := { name := "fnExactConstants", fn := fun _ => fun
  | [] => { results := [.lit (.bool true)], args := [] }
  | _ => none }
def fnExactConstantsRow : OpenClaim := { program := "ytmcjkdbegkdhoaa", sum := "4827565e725b8d8704e397bf75def79778542717f200ebb23564bced3260b886", func := "loop.example/g00125/laws.FnExactConstants", spec := "fnExactConstants", apart := false }
def FnExactConstantsSaid : Prop := fnExactConstantsRow.holds Try.pinned (OpenSpec.ofChange fnExactConstantsSpec)

/-- ITS FALSE NEIGHBOUR: 'it returns false'. Refute it at one input. -/
def fnExactConstantsWrong : ChangeSpec := { name := "fnExactConstants", fn := fun _ => fun
  | [] => { results := [.lit (.bool false)], args := [] }
  | _ => none }
def FnExactConstantsWrongFalsely : Prop := fnExactConstantsRow.holds Try.pinned (OpenSpec.ofChange fnExactConstantsWrong)

/-- 'laws.FnExactPtOk': WHATEVER THE INPUT: true; the input reads as it did. -/
def fnExactPtOkSpec : ChangeSpec := { name := "fnExactPtOk", fn := fun _ => fun
  | [d] => { results := [.lit (.bool true)], args := [d] }
  | _ => none }
def fnExactPtOkRow : OpenClaim := { program := "ytmcjkdbegkdhoaa", sum := "4827565e725b8d8704e397bf75def79778542717f200ebb23564bced3260b886", func := "loop.example/g00125/laws.FnExactPtOk", spec := "fnExactPtOk", apart := false }
def FnExactPtOkSaid : Prop := fnExactPtOkRow.holds Try.pinned (OpenSpec.ofChange fnExactPtOkSpec)

/-- ITS FALSE NEIGHBOUR: 'it returns false'. Refute it at one input. -/
def fnExactPtOkWrong : ChangeSpec := { name := "fnExactPtOk", fn := fun _ => fun
  | [d] => { results := [.lit (.bool false)], args := [d] }
  | _ => none }
def FnExactPtOkWrongFalsely : Prop := fnExactPtOkRow.holds Try.pinned (OpenSpec.ofChange fnExactPtOkWrong)

/-- 'laws.FnExactSpotOk': WHATEVER THE INPUT: true; the input reads as it did. -/
def fnExactSpotOkSpec : ChangeSpec := { name := "fnExactSpotOk", fn := fun _ => fun
  | [d] => { results := [.lit (.bool true)], args := [d] }
  | _ => none }
def fnExactSpotOkRow : OpenClaim := { program := "ytmcjkdbegkdhoaa", sum := "4827565e725b8d8704e397bf75def79778542717f200ebb23564bced3260b886", func := "loop.example/g00125/laws.FnExactSpotOk", spec := "fnExactSpotOk", apart := false }
def FnExactSpotOkSaid : Prop := fnExactSpotOkRow.holds Try.pinned (OpenSpec.ofChange fnExactSpotOkSpec)

/-- ITS FALSE NEIGHBOUR: 'it returns false'. Refute it at one input. -/
def fnExactSpotOkWrong : ChangeSpec := { name := "fnExactSpotOk", fn := fun _ => fun
  | [d] => { results := [.lit (.bool false)], args := [d] }
  | _ => none }
def FnExactSpotOkWrongFalsely : Prop := fnExactSpotOkRow.holds Try.pinned (OpenSpec.ofChange fnExactSpotOkWrong)

/-- 'laws.FnExactPlaneOk': WHATEVER THE INPUT: true; the input reads as it did. -/
def fnExactPlaneOkSpec : ChangeSpec := { name := "fnExactPlaneOk", fn := fun _ => fun
  | [d] => { results := [.lit (.bool true)], args := [d] }
  | _ => none }
def fnExactPlaneOkRow : OpenClaim := { program := "ytmcjkdbegkdhoaa", sum := "4827565e725b8d8704e397bf75def79778542717f200ebb23564bced3260b886", func := "loop.example/g00125/laws.FnExactPlaneOk", spec := "fnExactPlaneOk", apart := false }
def FnExactPlaneOkSaid : Prop := fnExactPlaneOkRow.holds Try.pinned (OpenSpec.ofChange fnExactPlaneOkSpec)

/-- ITS FALSE NEIGHBOUR: 'it returns false'. Refute it at one input. -/
def fnExactPlaneOkWrong : ChangeSpec := { name := "fnExactPlaneOk", fn := fun _ => fun
  | [d] => { results := [.lit (.bool false)], args := [d] }
  | _ => none }
def FnExactPlaneOkWrongFalsely : Prop := fnExactPlaneOkRow.holds Try.pinned (OpenSpec.ofChange fnExactPlaneOkWrong)

/-- 'laws.FnExactCmpPlane': WHATEVER THE INPUT: true; the input reads as it did. -/
def fnExactCmpPlaneSpec : ChangeSpec := { name := "fnExactCmpPlane", fn := fun _ => fun
  | [d1, d2] => { results := [.lit (.bool true)], args := [d1, d2] }
  | _ => none }
def fnExactCmpPlaneRow : OpenClaim := { program := "ytmcjkdbegkdhoaa", sum := "4827565e725b8d8704e397bf75def79778542717f200ebb23564bced3260b886", func := "loop.example/g00125/laws.FnExactCmpPlane", spec := "fnExactCmpPlane", apart := false }
def FnExactCmpPlaneSaid : Prop := fnExactCmpPlaneRow.holds Try.pinned (OpenSpec.ofChange fnExactCmpPlaneSpec)

/-- ITS FALSE NEIGHBOUR: 'it returns false'. Refute it at one input. -/
def fnExactCmpPlaneWrong : ChangeSpec := { name := "fnExactCmpPlane", fn := fun _ => fun
  | [d1, d2] => { results := [.lit (.bool false)], args := [d1, d2] }
  | _ => none }
def FnExactCmpPlaneWrongFalsely : Prop := fnExactCmpPlaneRow.holds Try.pinned (OpenSpec.ofChange fnExactCmpPlaneWrong)

/-- 'laws.FnExactNumOk': WHATEVER THE INPUT: true; the input reads as it did. -/
def fnExactNumOkSpec : ChangeSpec := { name := "fnExactNumOk", fn := fun _ => fun
  | [d] => { results := [.lit (.bool true)], args := [d] }
  | _ => none }
def fnExactNumOkRow : OpenClaim := { program := "ytmcjkdbegkdhoaa", sum := "4827565e725b8d8704e397bf75def79778542717f200ebb23564bced3260b886", func := "loop.example/g00125/laws.FnExactNumOk", spec := "fnExactNumOk", apart := false }
def FnExactNumOkSaid : Prop := fnExactNumOkRow.holds Try.pinned (OpenSpec.ofChange fnExactNumOkSpec)

/-- ITS FALSE NEIGHBOUR: 'it returns false'. Refute it at one input. -/
def fnExactNumOkWrong : ChangeSpec := { name := "fnExactNumOk", fn := fun _ => fun
  | [d] => { results := [.lit (.bool false)], args := [d] }
  | _ => none }
def FnExactNumOkWrongFalsely : Prop := fnExactNumOkRow.holds Try.pinned (OpenSpec.ofChange fnExactNumOkWrong)

/-- 'laws.FnExactFlip': WHATEVER THE INPUT: true; the input reads as it did. -/
def fnExactFlipSpec : ChangeSpec := { name := "fnExactFlip", fn := fun _ => fun
  | [d] => { results := [.lit (.bool true)], args := [d] }
  | _ => none }
def fnExactFlipRow : OpenClaim := { program := "ytmcjkdbegkdhoaa", sum := "4827565e725b8d8704e397bf75def79778542717f200ebb23564bced3260b886", func := "loop.example/g00125/laws.FnExactFlip", spec := "fnExactFlip", apart := false }
def FnExactFlipSaid : Prop := fnExactFlipRow.holds Try.pinned (OpenSpec.ofChange fnExactFlipSpec)

/-- ITS FALSE NEIGHBOUR: 'it returns false'. Refute it at one input. -/
def fnExactFlipWrong : ChangeSpec := { name := "fnExactFlip", fn := fun _ => fun
  | [d] => { results := [.lit (.bool false)], args := [d] }
  | _ => none }
def FnExactFlipWrongFalsely : Prop := fnExactFlipRow.holds Try.pinned (OpenSpec.ofChange fnExactFlipWrong)

/-- 'laws.FnExactCross': WHATEVER THE INPUT: true; the input reads as it did. -/
def fnExactCrossSpec : ChangeSpec := { name := "fnExactCross", fn := fun _ => fun
  | [d1, d2] => { results := [.lit (.bool true)], args := [d1, d2] }
  | _ => none }
def fnExactCrossRow : OpenClaim := { program := "ytmcjkdbegkdhoaa", sum := "4827565e725b8d8704e397bf75def79778542717f200ebb23564bced3260b886", func := "loop.example/g00125/laws.FnExactCross", spec := "fnExactCross", apart := false }
def FnExactCrossSaid : Prop := fnExactCrossRow.holds Try.pinned (OpenSpec.ofChange fnExactCrossSpec)

/-- ITS FALSE NEIGHBOUR: 'it returns false'. Refute it at one input. -/
def fnExactCrossWrong : ChangeSpec := { name := "fnExactCross", fn := fun _ => fun
  | [d1, d2] => { results := [.lit (.bool false)], args := [d1, d2] }
  | _ => none }
def FnExactCrossWrongFalsely : Prop := fnExactCrossRow.holds Try.pinned (OpenSpec.ofChange fnExactCrossWrong)

/-- 'laws.FnExactDet3': WHATEVER THE INPUT: true; the input reads as it did. -/
def fnExactDet3Spec : ChangeSpec := { name := "fnExactDet3", fn := fun _ => fun
  | [d1, d2, d3] => { results := [.lit (.bool true)], args := [d1, d2, d3] }
  | _ => none }
def fnExactDet3Row : OpenClaim := { program := "ytmcjkdbegkdhoaa", sum := "4827565e725b8d8704e397bf75def79778542717f200ebb23564bced3260b886", func := "loop.example/g00125/laws.FnExactDet3", spec := "fnExactDet3", apart := false }
def FnExactDet3Said : Prop := fnExactDet3Row.holds Try.pinned (OpenSpec.ofChange fnExactDet3Spec)

/-- ITS FALSE NEIGHBOUR: 'it returns false'. Refute it at one input. -/
def fnExactDet3Wrong : ChangeSpec := { name := "fnExactDet3", fn := fun _ => fun
  | [d1, d2, d3] => { results := [.lit (.bool false)], args := [d1, d2, d3] }
  | _ => none }
def FnExactDet3WrongFalsely : Prop := fnExactDet3Row.holds Try.pinned (OpenSpec.ofChange fnExactDet3Wrong)

/-- 'laws.FnExactDet4': WHATEVER THE INPUT: true; the input reads as it did. -/
def fnExactDet4Spec : ChangeSpec := { name := "fnExactDet4", fn := fun _ => fun
  | [d1, d2, d3, d4] => { results := [.lit (.bool true)], args := [d1, d2, d3, d4] }
  | _ => none }
def fnExactDet4Row : OpenClaim := { program := "ytmcjkdbegkdhoaa", sum := "4827565e725b8d8704e397bf75def79778542717f200ebb23564bced3260b886", func := "loop.example/g00125/laws.FnExactDet4", spec := "fnExactDet4", apart := false }
def FnExactDet4Said : Prop := fnExactDet4Row.holds Try.pinned (OpenSpec.ofChange fnExactDet4Spec)

/-- ITS FALSE NEIGHBOUR: 'it returns false'. Refute it at one input. -/
def fnExactDet4Wrong : ChangeSpec := { name := "fnExactDet4", fn := fun _ => fun
  | [d1, d2, d3, d4] => { results := [.lit (.bool false)], args := [d1, d2, d3, d4] }
  | _ => none }
def FnExactDet4WrongFalsely : Prop := fnExactDet4Row.holds Try.pinned (OpenSpec.ofChange fnExactDet4Wrong)

/-- 'laws.FnExactSideOf': WHATEVER THE INPUT: true; the input reads as it did. -/
def fnExactSideOfSpec : ChangeSpec := { name := "fnExactSideOf", fn := fun _ => fun
  | [d1, d2] => { results := [.lit (.bool true)], args := [d1, d2] }
  | _ => none }
def fnExactSideOfRow : OpenClaim := { program := "ytmcjkdbegkdhoaa", sum := "4827565e725b8d8704e397bf75def79778542717f200ebb23564bced3260b886", func := "loop.example/g00125/laws.FnExactSideOf", spec := "fnExactSideOf", apart := false }
def FnExactSideOfSaid : Prop := fnExactSideOfRow.holds Try.pinned (OpenSpec.ofChange fnExactSideOfSpec)

/-- ITS FALSE NEIGHBOUR: 'it returns false'. Refute it at one input. -/
def fnExactSideOfWrong : ChangeSpec := { name := "fnExactSideOf", fn := fun _ => fun
  | [d1, d2] => { results := [.lit (.bool false)], args := [d1, d2] }
  | _ => none }
def FnExactSideOfWrongFalsely : Prop := fnExactSideOfRow.holds Try.pinned (OpenSpec.ofChange fnExactSideOfWrong)

/-- 'laws.FnExactCmpSpot': WHATEVER THE INPUT: true; the input reads as it did. -/
def fnExactCmpSpotSpec : ChangeSpec := { name := "fnExactCmpSpot", fn := fun _ => fun
  | [d1, d2] => { results := [.lit (.bool true)], args := [d1, d2] }
  | _ => none }
def fnExactCmpSpotRow : OpenClaim := { program := "ytmcjkdbegkdhoaa", sum := "4827565e725b8d8704e397bf75def79778542717f200ebb23564bced3260b886", func := "loop.example/g00125/laws.FnExactCmpSpot", spec := "fnExactCmpSpot", apart := false }
def FnExactCmpSpotSaid : Prop := fnExactCmpSpotRow.holds Try.pinned (OpenSpec.ofChange fnExactCmpSpotSpec)

/-- ITS FALSE NEIGHBOUR: 'it returns false'. Refute it at one input. -/
def fnExactCmpSpotWrong : ChangeSpec := { name := "fnExactCmpSpot", fn := fun _ => fun
  | [d1, d2] => { results := [.lit (.bool false)], args := [d1, d2] }
  | _ => none }
def FnExactCmpSpotWrongFalsely : Prop := fnExactCmpSpotRow.holds Try.pinned (OpenSpec.ofChange fnExactCmpSpotWrong)

/-- 'laws.FnExactParallel': WHATEVER THE INPUT: true; the input reads as it did. -/
def fnExactParallelSpec : ChangeSpec := { name := "fnExactParallel", fn := fun _ => fun
  | [d1, d2] => { results := [.lit (.bool true)], args := [d1, d2] }
  | _ => none }
def fnExactParallelRow : OpenClaim := { program := "ytmcjkdbegkdhoaa", sum := "4827565e725b8d8704e397bf75def79778542717f200ebb23564bced3260b886", func := "loop.example/g00125/laws.FnExactParallel", spec := "fnExactParallel", apart := false }
def FnExactParallelSaid : Prop := fnExactParallelRow.holds Try.pinned (OpenSpec.ofChange fnExactParallelSpec)

/-- ITS FALSE NEIGHBOUR: 'it returns false'. Refute it at one input. -/
def fnExactParallelWrong : ChangeSpec := { name := "fnExactParallel", fn := fun _ => fun
  | [d1, d2] => { results := [.lit (.bool false)], args := [d1, d2] }
  | _ => none }
def FnExactParallelWrongFalsely : Prop := fnExactParallelRow.holds Try.pinned (OpenSpec.ofChange fnExactParallelWrong)

/-- 'laws.FnExactSideAt': WHATEVER THE INPUT: true; the input reads as it did. -/
def fnExactSideAtSpec : ChangeSpec := { name := "fnExactSideAt", fn := fun _ => fun
  | [d1, d2] => { results := [.lit (.bool true)], args := [d1, d2] }
  | _ => none }
def fnExactSideAtRow : OpenClaim := { program := "ytmcjkdbegkdhoaa", sum := "4827565e725b8d8704e397bf75def79778542717f200ebb23564bced3260b886", func := "loop.example/g00125/laws.FnExactSideAt", spec := "fnExactSideAt", apart := false }
def FnExactSideAtSaid : Prop := fnExactSideAtRow.holds Try.pinned (OpenSpec.ofChange fnExactSideAtSpec)

/-- ITS FALSE NEIGHBOUR: 'it returns false'. Refute it at one input. -/
def fnExactSideAtWrong : ChangeSpec := { name := "fnExactSideAt", fn := fun _ => fun
  | [d1, d2] => { results := [.lit (.bool false)], args := [d1, d2] }
  | _ => none }
def FnExactSideAtWrongFalsely : Prop := fnExactSideAtRow.holds Try.pinned (OpenSpec.ofChange fnExactSideAtWrong)

/-- 'laws.FnExactMeet3': WHATEVER THE INPUT: true; the input reads as it did. -/
def fnExactMeet3Spec : ChangeSpec := { name := "fnExactMeet3", fn := fun _ => fun
  | [d1, d2, d3] => { results := [.lit (.bool true)], args := [d1, d2, d3] }
  | _ => none }
def fnExactMeet3Row : OpenClaim := { program := "ytmcjkdbegkdhoaa", sum := "4827565e725b8d8704e397bf75def79778542717f200ebb23564bced3260b886", func := "loop.example/g00125/laws.FnExactMeet3", spec := "fnExactMeet3", apart := false }
def FnExactMeet3Said : Prop := fnExactMeet3Row.holds Try.pinned (OpenSpec.ofChange fnExactMeet3Spec)

/-- ITS FALSE NEIGHBOUR: 'it returns false'. Refute it at one input. -/
def fnExactMeet3Wrong : ChangeSpec := { name := "fnExactMeet3", fn := fun _ => fun
  | [d1, d2, d3] => { results := [.lit (.bool false)], args := [d1, d2, d3] }
  | _ => none }
def FnExactMeet3WrongFalsely : Prop := fnExactMeet3Row.holds Try.pinned (OpenSpec.ofChange fnExactMeet3Wrong)

/-- 'laws.FnExactRank': WHATEVER THE INPUT: true; the input reads as it did. -/
def fnExactRankSpec : ChangeSpec := { name := "fnExactRank", fn := fun _ => fun
  | [d] => { results := [.lit (.bool true)], args := [d] }
  | _ => none }
def fnExactRankRow : OpenClaim := { program := "ytmcjkdbegkdhoaa", sum := "4827565e725b8d8704e397bf75def79778542717f200ebb23564bced3260b886", func := "loop.example/g00125/laws.FnExactRank", spec := "fnExactRank", apart := false }
def FnExactRankSaid : Prop := fnExactRankRow.holds Try.pinned (OpenSpec.ofChange fnExactRankSpec)

/-- ITS FALSE NEIGHBOUR: 'it returns false'. Refute it at one input. -/
def fnExactRankWrong : ChangeSpec := { name := "fnExactRank", fn := fun _ => fun
  | [d] => { results := [.lit (.bool false)], args := [d] }
  | _ => none }
def FnExactRankWrongFalsely : Prop := fnExactRankRow.holds Try.pinned (OpenSpec.ofChange fnExactRankWrong)

/-- 'laws.FnExactShifted': WHATEVER THE INPUT: true; the input reads as it did. -/
def fnExactShiftedSpec : ChangeSpec := { name := "fnExactShifted", fn := fun _ => fun
  | [d1, d2] => { results := [.lit (.bool true)], args := [d1, d2] }
  | _ => none }
def fnExactShiftedRow : OpenClaim := { program := "ytmcjkdbegkdhoaa", sum := "4827565e725b8d8704e397bf75def79778542717f200ebb23564bced3260b886", func := "loop.example/g00125/laws.FnExactShifted", spec := "fnExactShifted", apart := false }
def FnExactShiftedSaid : Prop := fnExactShiftedRow.holds Try.pinned (OpenSpec.ofChange fnExactShiftedSpec)

/-- ITS FALSE NEIGHBOUR: 'it returns false'. Refute it at one input. -/
def fnExactShiftedWrong : ChangeSpec := { name := "fnExactShifted", fn := fun _ => fun
  | [d1, d2] => { results := [.lit (.bool false)], args := [d1, d2] }
  | _ => none }
def FnExactShiftedWrongFalsely : Prop := fnExactShiftedRow.holds Try.pinned (OpenSpec.ofChange fnExactShiftedWrong)

/-- 'laws.FnExactOpen': WHATEVER THE INPUT: true; the input reads as it did. -/
def fnExactOpenSpec : ChangeSpec := { name := "fnExactOpen", fn := fun _ => fun
  | [d] => { results := [.lit (.bool true)], args := [d] }
  | _ => none }
def fnExactOpenRow : OpenClaim := { program := "ytmcjkdbegkdhoaa", sum := "4827565e725b8d8704e397bf75def79778542717f200ebb23564bced3260b886", func := "loop.example/g00125/laws.FnExactOpen", spec := "fnExactOpen", apart := false }
def FnExactOpenSaid : Prop := fnExactOpenRow.holds Try.pinned (OpenSpec.ofChange fnExactOpenSpec)

/-- ITS FALSE NEIGHBOUR: 'it returns false'. Refute it at one input. -/
def fnExactOpenWrong : ChangeSpec := { name := "fnExactOpen", fn := fun _ => fun
  | [d] => { results := [.lit (.bool false)], args := [d] }
  | _ => none }
def FnExactOpenWrongFalsely : Prop := fnExactOpenRow.holds Try.pinned (OpenSpec.ofChange fnExactOpenWrong)

/-- 'laws.FnExactOpenWith': WHATEVER THE INPUT: true; the input reads as it did. -/
def fnExactOpenWithSpec : ChangeSpec := { name := "fnExactOpenWith", fn := fun _ => fun
  | [d1, d2] => { results := [.lit (.bool true)], args := [d1, d2] }
  | _ => none }
def fnExactOpenWithRow : OpenClaim := { program := "ytmcjkdbegkdhoaa", sum := "4827565e725b8d8704e397bf75def79778542717f200ebb23564bced3260b886", func := "loop.example/g00125/laws.FnExactOpenWith", spec := "fnExactOpenWith", apart := false }
def FnExactOpenWithSaid : Prop := fnExactOpenWithRow.holds Try.pinned (OpenSpec.ofChange fnExactOpenWithSpec)

/-- ITS FALSE NEIGHBOUR: 'it returns false'. Refute it at one input. -/
def fnExactOpenWithWrong : ChangeSpec := { name := "fnExactOpenWith", fn := fun _ => fun
  | [d1, d2] => { results := [.lit (.bool false)], args := [d1, d2] }
  | _ => none }
def FnExactOpenWithWrongFalsely : Prop := fnExactOpenWithRow.holds Try.pinned (OpenSpec.ofChange fnExactOpenWithWrong)

/-- 'laws.FnExactSplits': WHATEVER THE INPUT: true; the input reads as it did. -/
def fnExactSplitsSpec : ChangeSpec := { name := "fnExactSplits", fn := fun _ => fun
  | [d1, d2] => { results := [.lit (.bool true)], args := [d1, d2] }
  | _ => none }
def fnExactSplitsRow : OpenClaim := { program := "ytmcjkdbegkdhoaa", sum := "4827565e725b8d8704e397bf75def79778542717f200ebb23564bced3260b886", func := "loop.example/g00125/laws.FnExactSplits", spec := "fnExactSplits", apart := false }
def FnExactSplitsSaid : Prop := fnExactSplitsRow.holds Try.pinned (OpenSpec.ofChange fnExactSplitsSpec)

/-- ITS FALSE NEIGHBOUR: 'it returns false'. Refute it at one input. -/
def fnExactSplitsWrong : ChangeSpec := { name := "fnExactSplits", fn := fun _ => fun
  | [d1, d2] => { results := [.lit (.bool false)], args := [d1, d2] }
  | _ => none }
def FnExactSplitsWrongFalsely : Prop := fnExactSplitsRow.holds Try.pinned (OpenSpec.ofChange fnExactSplitsWrong)

/-- 'laws.FnExactInCell': WHATEVER THE INPUT: true; the input reads as it did. -/
def fnExactInCellSpec : ChangeSpec := { name := "fnExactInCell", fn := fun _ => fun
  | [d1, d2] => { results := [.lit (.bool true)], args := [d1, d2] }
  | _ => none }
def fnExactInCellRow : OpenClaim := { program := "ytmcjkdbegkdhoaa", sum := "4827565e725b8d8704e397bf75def79778542717f200ebb23564bced3260b886", func := "loop.example/g00125/laws.FnExactInCell", spec := "fnExactInCell", apart := false }
def FnExactInCellSaid : Prop := fnExactInCellRow.holds Try.pinned (OpenSpec.ofChange fnExactInCellSpec)

/-- ITS FALSE NEIGHBOUR: 'it returns false'. Refute it at one input. -/
def fnExactInCellWrong : ChangeSpec := { name := "fnExactInCell", fn := fun _ => fun
  | [d1, d2] => { results := [.lit (.bool false)], args := [d1, d2] }
  | _ => none }
def FnExactInCellWrongFalsely : Prop := fnExactInCellRow.holds Try.pinned (OpenSpec.ofChange fnExactInCellWrong)

/-- 'laws.FnExactBounded': WHATEVER THE INPUT: true; the input reads as it did. -/
def fnExactBoundedSpec : ChangeSpec := { name := "fnExactBounded", fn := fun _ => fun
  | [d] => { results := [.lit (.bool true)], args := [d] }
  | _ => none }
def fnExactBoundedRow : OpenClaim := { program := "ytmcjkdbegkdhoaa", sum := "4827565e725b8d8704e397bf75def79778542717f200ebb23564bced3260b886", func := "loop.example/g00125/laws.FnExactBounded", spec := "fnExactBounded", apart := false }
def FnExactBoundedSaid : Prop := fnExactBoundedRow.holds Try.pinned (OpenSpec.ofChange fnExactBoundedSpec)

/-- ITS FALSE NEIGHBOUR: 'it returns false'. Refute it at one input. -/
def fnExactBoundedWrong : ChangeSpec := { name := "fnExactBounded", fn := fun _ => fun
  | [d] => { results := [.lit (.bool false)], args := [d] }
  | _ => none }
def FnExactBoundedWrongFalsely : Prop := fnExactBoundedRow.holds Try.pinned (OpenSpec.ofChange fnExactBoundedWrong)

/-- 'laws.FnExactNeeded': WHATEVER THE INPUT: true; the input reads as it did. -/
def fnExactNeededSpec : ChangeSpec := { name := "fnExactNeeded", fn := fun _ => fun
  | [d] => { results := [.lit (.bool true)], args := [d] }
  | _ => none }
def fnExactNeededRow : OpenClaim := { program := "ytmcjkdbegkdhoaa", sum := "4827565e725b8d8704e397bf75def79778542717f200ebb23564bced3260b886", func := "loop.example/g00125/laws.FnExactNeeded", spec := "fnExactNeeded", apart := false }
def FnExactNeededSaid : Prop := fnExactNeededRow.holds Try.pinned (OpenSpec.ofChange fnExactNeededSpec)

/-- ITS FALSE NEIGHBOUR: 'it returns false'. Refute it at one input. -/
def fnExactNeededWrong : ChangeSpec := { name := "fnExactNeeded", fn := fun _ => fun
  | [d] => { results := [.lit (.bool false)], args := [d] }
  | _ => none }
def FnExactNeededWrongFalsely : Prop := fnExactNeededRow.holds Try.pinned (OpenSpec.ofChange fnExactNeededWrong)

/-- 'laws.FnExactBlame': WHATEVER THE INPUT: true; the input reads as it did. -/
def fnExactBlameSpec : ChangeSpec := { name := "fnExactBlame", fn := fun _ => fun
  | [d] => { results := [.lit (.bool true)], args := [d] }
  | _ => none }
def fnExactBlameRow : OpenClaim := { program := "ytmcjkdbegkdhoaa", sum := "4827565e725b8d8704e397bf75def79778542717f200ebb23564bced3260b886", func := "loop.example/g00125/laws.FnExactBlame", spec := "fnExactBlame", apart := false }
def FnExactBlameSaid : Prop := fnExactBlameRow.holds Try.pinned (OpenSpec.ofChange fnExactBlameSpec)

/-- ITS FALSE NEIGHBOUR: 'it returns false'. Refute it at one input. -/
def fnExactBlameWrong : ChangeSpec := { name := "fnExactBlame", fn := fun _ => fun
  | [d] => { results := [.lit (.bool false)], args := [d] }
  | _ => none }
def FnExactBlameWrongFalsely : Prop := fnExactBlameRow.holds Try.pinned (OpenSpec.ofChange fnExactBlameWrong)

/-- 'laws.FnExactCorners': WHATEVER THE INPUT: true; the input reads as it did. -/
def fnExactCornersSpec : ChangeSpec := { name := "fnExactCorners", fn := fun _ => fun
  | [d] => { results := [.lit (.bool true)], args := [d] }
  | _ => none }
def fnExactCornersRow : OpenClaim := { program := "ytmcjkdbegkdhoaa", sum := "4827565e725b8d8704e397bf75def79778542717f200ebb23564bced3260b886", func := "loop.example/g00125/laws.FnExactCorners", spec := "fnExactCorners", unfollowed := true, recurses := true, apart := false }
def FnExactCornersSaid : Prop := fnExactCornersRow.holds Try.pinned (OpenSpec.ofChange fnExactCornersSpec)

/-- ITS FALSE NEIGHBOUR: 'it returns false'. Refute it at one input. -/
def fnExactCornersWrong : ChangeSpec := { name := "fnExactCorners", fn := fun _ => fun
  | [d] => { results := [.lit (.bool false)], args := [d] }
  | _ => none }
def FnExactCornersWrongFalsely : Prop := fnExactCornersRow.holds Try.pinned (OpenSpec.ofChange fnExactCornersWrong)

/-- 'laws.FnExactEdgesOf': WHATEVER THE INPUT: true; the input reads as it did. -/
def fnExactEdgesOfSpec : ChangeSpec := { name := "fnExactEdgesOf", fn := fun _ => fun
  | [d] => { results := [.lit (.bool true)], args := [d] }
  | _ => none }
def fnExactEdgesOfRow : OpenClaim := { program := "ytmcjkdbegkdhoaa", sum := "4827565e725b8d8704e397bf75def79778542717f200ebb23564bced3260b886", func := "loop.example/g00125/laws.FnExactEdgesOf", spec := "fnExactEdgesOf", unfollowed := true, recurses := true, apart := false }
def FnExactEdgesOfSaid : Prop := fnExactEdgesOfRow.holds Try.pinned (OpenSpec.ofChange fnExactEdgesOfSpec)

/-- ITS FALSE NEIGHBOUR: 'it returns false'. Refute it at one input. -/
def fnExactEdgesOfWrong : ChangeSpec := { name := "fnExactEdgesOf", fn := fun _ => fun
  | [d] => { results := [.lit (.bool false)], args := [d] }
  | _ => none }
def FnExactEdgesOfWrongFalsely : Prop := fnExactEdgesOfRow.holds Try.pinned (OpenSpec.ofChange fnExactEdgesOfWrong)

/- THE SECOND FORM. 'bulk': how many values and letters a reading holds, each counted each time it is reached (what is shared counts as often as it is met; a slice's spare places count too). A statement '..UptoSaid' is the law's where the arguments, and the package variables that the reading takes, are together of bulk at most 1048576: NARROWER than '..Said'. Prove '..Said' where nothing that the law and all that it calls make is longer than what came in: it says more and counts as full. Else prove '..UptoSaid'. A law counts once. -/
mutual
def uptoBulk {H : Type} : DataW H → Nat
  | .lit (.string bytes) => bytes.length + 1
  | .lit _ => 1
  | .nil => 1
  | .ptr d => uptoBulk d + 1
  | .slice elems spare => uptoBulkAll elems + uptoBulkAll spare + 1
  | .agg parts => uptoBulkAll parts + 1
  | .iface _ d => uptoBulk d + 1
  | .map entries => uptoBulkEntries entries + 1
  | .held _ => 1
def uptoBulkAll {H : Type} : List (DataW H) → Nat
  | [] => 0
  | d :: r => uptoBulk d + uptoBulkAll r
def uptoBulkEntries {H : Type} : List (Lit × DataW H) → Nat
  | [] => 0
  | x :: r => uptoBulkEntry x + uptoBulkEntries r
def uptoBulkEntry {H : Type} : Lit × DataW H → Nat
  | (.string bytes, d) => bytes.length + uptoBulk d + 1
  | (_, d) => uptoBulk d + 1
 end
def uptoSmall : (H : Type) → List (DataW H) → Bool := fun _ ds => decide (uptoBulkAll ds ≤ 1048576)
def OpenSpec.upto (s : _root_.Go.ChangeSpec) : _root_.Go.OpenSpec := { _root_.Go.OpenSpec.ofChange s with cond := some uptoSmall }

/-- 'laws.FnExactConstants', WHERE WHAT IT READS IS OF BULK AT MOST 1048576: true; the input reads as it did. -/
def fnExactConstantsUptoRow : OpenClaim := { program := "ytmcjkdbegkdhoaa", sum := "4827565e725b8d8704e397bf75def79778542717f200ebb23564bced3260b886", func := "loop.example/g00125/laws.FnExactConstants", spec := "fnExactConstants", apart := false, narrowed := true }
def FnExactConstantsUptoSaid : Prop := fnExactConstantsUptoRow.holds Try.pinned (OpenSpec.upto fnExactConstantsSpec)

/-- 'laws.FnExactPtOk', WHERE WHAT IT READS IS OF BULK AT MOST 1048576: true; the input reads as it did. -/
def fnExactPtOkUptoRow : OpenClaim := { program := "ytmcjkdbegkdhoaa", sum := "4827565e725b8d8704e397bf75def79778542717f200ebb23564bced3260b886", func := "loop.example/g00125/laws.FnExactPtOk", spec := "fnExactPtOk", apart := false, narrowed := true }
def FnExactPtOkUptoSaid : Prop := fnExactPtOkUptoRow.holds Try.pinned (OpenSpec.upto fnExactPtOkSpec)

/-- 'laws.FnExactSpotOk', WHERE WHAT IT READS IS OF BULK AT MOST 1048576: true; the input reads as it did. -/
def fnExactSpotOkUptoRow : OpenClaim := { program := "ytmcjkdbegkdhoaa", sum := "4827565e725b8d8704e397bf75def79778542717f200ebb23564bced3260b886", func := "loop.example/g00125/laws.FnExactSpotOk", spec := "fnExactSpotOk", apart := false, narrowed := true }
def FnExactSpotOkUptoSaid : Prop := fnExactSpotOkUptoRow.holds Try.pinned (OpenSpec.upto fnExactSpotOkSpec)

/-- 'laws.FnExactPlaneOk', WHERE WHAT IT READS IS OF BULK AT MOST 1048576: true; the input reads as it did. -/
def fnExactPlaneOkUptoRow : OpenClaim := { program := "ytmcjkdbegkdhoaa", sum := "4827565e725b8d8704e397bf75def79778542717f200ebb23564bced3260b886", func := "loop.example/g00125/laws.FnExactPlaneOk", spec := "fnExactPlaneOk", apart := false, narrowed := true }
def FnExactPlaneOkUptoSaid : Prop := fnExactPlaneOkUptoRow.holds Try.pinned (OpenSpec.upto fnExactPlaneOkSpec)

/-- 'laws.FnExactCmpPlane', WHERE WHAT IT READS IS OF BULK AT MOST 1048576: true; the input reads as it did. -/
def fnExactCmpPlaneUptoRow : OpenClaim := { program := "ytmcjkdbegkdhoaa", sum := "4827565e725b8d8704e397bf75def79778542717f200ebb23564bced3260b886", func := "loop.example/g00125/laws.FnExactCmpPlane", spec := "fnExactCmpPlane", apart := false, narrowed := true }
def FnExactCmpPlaneUptoSaid : Prop := fnExactCmpPlaneUptoRow.holds Try.pinned (OpenSpec.upto fnExactCmpPlaneSpec)

/-- 'laws.FnExactNumOk', WHERE WHAT IT READS IS OF BULK AT MOST 1048576: true; the input reads as it did. -/
def fnExactNumOkUptoRow : OpenClaim := { program := "ytmcjkdbegkdhoaa", sum := "4827565e725b8d8704e397bf75def79778542717f200ebb23564bced3260b886", func := "loop.example/g00125/laws.FnExactNumOk", spec := "fnExactNumOk", apart := false, narrowed := true }
def FnExactNumOkUptoSaid : Prop := fnExactNumOkUptoRow.holds Try.pinned (OpenSpec.upto fnExactNumOkSpec)

/-- 'laws.FnExactFlip', WHERE WHAT IT READS IS OF BULK AT MOST 1048576: true; the input reads as it did. -/
def fnExactFlipUptoRow : OpenClaim := { program := "ytmcjkdbegkdhoaa", sum := "4827565e725b8d8704e397bf75def79778542717f200ebb23564bced3260b886", func := "loop.example/g00125/laws.FnExactFlip", spec := "fnExactFlip", apart := false, narrowed := true }
def FnExactFlipUptoSaid : Prop := fnExactFlipUptoRow.holds Try.pinned (OpenSpec.upto fnExactFlipSpec)

/-- 'laws.FnExactCross', WHERE WHAT IT READS IS OF BULK AT MOST 1048576: true; the input reads as it did. -/
def fnExactCrossUptoRow : OpenClaim := { program := "ytmcjkdbegkdhoaa", sum := "4827565e725b8d8704e397bf75def79778542717f200ebb23564bced3260b886", func := "loop.example/g00125/laws.FnExactCross", spec := "fnExactCross", apart := false, narrowed := true }
def FnExactCrossUptoSaid : Prop := fnExactCrossUptoRow.holds Try.pinned (OpenSpec.upto fnExactCrossSpec)

/-- 'laws.FnExactDet3', WHERE WHAT IT READS IS OF BULK AT MOST 1048576: true; the input reads as it did. -/
def fnExactDet3UptoRow : OpenClaim := { program := "ytmcjkdbegkdhoaa", sum := "4827565e725b8d8704e397bf75def79778542717f200ebb23564bced3260b886", func := "loop.example/g00125/laws.FnExactDet3", spec := "fnExactDet3", apart := false, narrowed := true }
def FnExactDet3UptoSaid : Prop := fnExactDet3UptoRow.holds Try.pinned (OpenSpec.upto fnExactDet3Spec)

/-- 'laws.FnExactDet4', WHERE WHAT IT READS IS OF BULK AT MOST 1048576: true; the input reads as it did. -/
def fnExactDet4UptoRow : OpenClaim := { program := "ytmcjkdbegkdhoaa", sum := "4827565e725b8d8704e397bf75def79778542717f200ebb23564bced3260b886", func := "loop.example/g00125/laws.FnExactDet4", spec := "fnExactDet4", apart := false, narrowed := true }
def FnExactDet4UptoSaid : Prop := fnExactDet4UptoRow.holds Try.pinned (OpenSpec.upto fnExactDet4Spec)

/-- 'laws.FnExactSideOf', WHERE WHAT IT READS IS OF BULK AT MOST 1048576: true; the input reads as it did. -/
def fnExactSideOfUptoRow : OpenClaim := { program := "ytmcjkdbegkdhoaa", sum := "4827565e725b8d8704e397bf75def79778542717f200ebb23564bced3260b886", func := "loop.example/g00125/laws.FnExactSideOf", spec := "fnExactSideOf", apart := false, narrowed := true }
def FnExactSideOfUptoSaid : Prop := fnExactSideOfUptoRow.holds Try.pinned (OpenSpec.upto fnExactSideOfSpec)

/-- 'laws.FnExactCmpSpot', WHERE WHAT IT READS IS OF BULK AT MOST 1048576: true; the input reads as it did. -/
def fnExactCmpSpotUptoRow : OpenClaim := { program := "ytmcjkdbegkdhoaa", sum := "4827565e725b8d8704e397bf75def79778542717f200ebb23564bced3260b886", func := "loop.example/g00125/laws.FnExactCmpSpot", spec := "fnExactCmpSpot", apart := false, narrowed := true }
def FnExactCmpSpotUptoSaid : Prop := fnExactCmpSpotUptoRow.holds Try.pinned (OpenSpec.upto fnExactCmpSpotSpec)

/-- 'laws.FnExactParallel', WHERE WHAT IT READS IS OF BULK AT MOST 1048576: true; the input reads as it did. -/
def fnExactParallelUptoRow : OpenClaim := { program := "ytmcjkdbegkdhoaa", sum := "4827565e725b8d8704e397bf75def79778542717f200ebb23564bced3260b886", func := "loop.example/g00125/laws.FnExactParallel", spec := "fnExactParallel", apart := false, narrowed := true }
def FnExactParallelUptoSaid : Prop := fnExactParallelUptoRow.holds Try.pinned (OpenSpec.upto fnExactParallelSpec)

/-- 'laws.FnExactSideAt', WHERE WHAT IT READS IS OF BULK AT MOST 1048576: true; the input reads as it did. -/
def fnExactSideAtUptoRow : OpenClaim := { program := "ytmcjkdbegkdhoaa", sum := "4827565e725b8d8704e397bf75def79778542717f200ebb23564bced3260b886", func := "loop.example/g00125/laws.FnExactSideAt", spec := "fnExactSideAt", apart := false, narrowed := true }
def FnExactSideAtUptoSaid : Prop := fnExactSideAtUptoRow.holds Try.pinned (OpenSpec.upto fnExactSideAtSpec)

/-- 'laws.FnExactMeet3', WHERE WHAT IT READS IS OF BULK AT MOST 1048576: true; the input reads as it did. -/
def fnExactMeet3UptoRow : OpenClaim := { program := "ytmcjkdbegkdhoaa", sum := "4827565e725b8d8704e397bf75def79778542717f200ebb23564bced3260b886", func := "loop.example/g00125/laws.FnExactMeet3", spec := "fnExactMeet3", apart := false, narrowed := true }
def FnExactMeet3UptoSaid : Prop := fnExactMeet3UptoRow.holds Try.pinned (OpenSpec.upto fnExactMeet3Spec)

/-- 'laws.FnExactRank', WHERE WHAT IT READS IS OF BULK AT MOST 1048576: true; the input reads as it did. -/
def fnExactRankUptoRow : OpenClaim := { program := "ytmcjkdbegkdhoaa", sum := "4827565e725b8d8704e397bf75def79778542717f200ebb23564bced3260b886", func := "loop.example/g00125/laws.FnExactRank", spec := "fnExactRank", apart := false, narrowed := true }
def FnExactRankUptoSaid : Prop := fnExactRankUptoRow.holds Try.pinned (OpenSpec.upto fnExactRankSpec)

/-- 'laws.FnExactShifted', WHERE WHAT IT READS IS OF BULK AT MOST 1048576: true; the input reads as it did. -/
def fnExactShiftedUptoRow : OpenClaim := { program := "ytmcjkdbegkdhoaa", sum := "4827565e725b8d8704e397bf75def79778542717f200ebb23564bced3260b886", func := "loop.example/g00125/laws.FnExactShifted", spec := "fnExactShifted", apart := false, narrowed := true }
def FnExactShiftedUptoSaid : Prop := fnExactShiftedUptoRow.holds Try.pinned (OpenSpec.upto fnExactShiftedSpec)

/-- 'laws.FnExactOpen', WHERE WHAT IT READS IS OF BULK AT MOST 1048576: true; the input reads as it did. -/
def fnExactOpenUptoRow : OpenClaim := { program := "ytmcjkdbegkdhoaa", sum := "4827565e725b8d8704e397bf75def79778542717f200ebb23564bced3260b886", func := "loop.example/g00125/laws.FnExactOpen", spec := "fnExactOpen", apart := false, narrowed := true }
def FnExactOpenUptoSaid : Prop := fnExactOpenUptoRow.holds Try.pinned (OpenSpec.upto fnExactOpenSpec)

/-- 'laws.FnExactOpenWith', WHERE WHAT IT READS IS OF BULK AT MOST 1048576: true; the input reads as it did. -/
def fnExactOpenWithUptoRow : OpenClaim := { program := "ytmcjkdbegkdhoaa", sum := "4827565e725b8d8704e397bf75def79778542717f200ebb23564bced3260b886", func := "loop.example/g00125/laws.FnExactOpenWith", spec := "fnExactOpenWith", apart := false, narrowed := true }
def FnExactOpenWithUptoSaid : Prop := fnExactOpenWithUptoRow.holds Try.pinned (OpenSpec.upto fnExactOpenWithSpec)

/-- 'laws.FnExactSplits', WHERE WHAT IT READS IS OF BULK AT MOST 1048576: true; the input reads as it did. -/
def fnExactSplitsUptoRow : OpenClaim := { program := "ytmcjkdbegkdhoaa", sum := "4827565e725b8d8704e397bf75def79778542717f200ebb23564bced3260b886", func := "loop.example/g00125/laws.FnExactSplits", spec := "fnExactSplits", apart := false, narrowed := true }
def FnExactSplitsUptoSaid : Prop := fnExactSplitsUptoRow.holds Try.pinned (OpenSpec.upto fnExactSplitsSpec)

/-- 'laws.FnExactInCell', WHERE WHAT IT READS IS OF BULK AT MOST 1048576: true; the input reads as it did. -/
def fnExactInCellUptoRow : OpenClaim := { program := "ytmcjkdbegkdhoaa", sum := "4827565e725b8d8704e397bf75def79778542717f200ebb23564bced3260b886", func := "loop.example/g00125/laws.FnExactInCell", spec := "fnExactInCell", apart := false, narrowed := true }
def FnExactInCellUptoSaid : Prop := fnExactInCellUptoRow.holds Try.pinned (OpenSpec.upto fnExactInCellSpec)

/-- 'laws.FnExactBounded', WHERE WHAT IT READS IS OF BULK AT MOST 1048576: true; the input reads as it did. -/
def fnExactBoundedUptoRow : OpenClaim := { program := "ytmcjkdbegkdhoaa", sum := "4827565e725b8d8704e397bf75def79778542717f200ebb23564bced3260b886", func := "loop.example/g00125/laws.FnExactBounded", spec := "fnExactBounded", apart := false, narrowed := true }
def FnExactBoundedUptoSaid : Prop := fnExactBoundedUptoRow.holds Try.pinned (OpenSpec.upto fnExactBoundedSpec)

/-- 'laws.FnExactNeeded', WHERE WHAT IT READS IS OF BULK AT MOST 1048576: true; the input reads as it did. -/
def fnExactNeededUptoRow : OpenClaim := { program := "ytmcjkdbegkdhoaa", sum := "4827565e725b8d8704e397bf75def79778542717f200ebb23564bced3260b886", func := "loop.example/g00125/laws.FnExactNeeded", spec := "fnExactNeeded", apart := false, narrowed := true }
def FnExactNeededUptoSaid : Prop := fnExactNeededUptoRow.holds Try.pinned (OpenSpec.upto fnExactNeededSpec)

/-- 'laws.FnExactBlame', WHERE WHAT IT READS IS OF BULK AT MOST 1048576: true; the input reads as it did. -/
def fnExactBlameUptoRow : OpenClaim := { program := "ytmcjkdbegkdhoaa", sum := "4827565e725b8d8704e397bf75def79778542717f200ebb23564bced3260b886", func := "loop.example/g00125/laws.FnExactBlame", spec := "fnExactBlame", apart := false, narrowed := true }
def FnExactBlameUptoSaid : Prop := fnExactBlameUptoRow.holds Try.pinned (OpenSpec.upto fnExactBlameSpec)

/-- 'laws.FnExactCorners', WHERE WHAT IT READS IS OF BULK AT MOST 1048576: true; the input reads as it did. -/
def fnExactCornersUptoRow : OpenClaim := { program := "ytmcjkdbegkdhoaa", sum := "4827565e725b8d8704e397bf75def79778542717f200ebb23564bced3260b886", func := "loop.example/g00125/laws.FnExactCorners", spec := "fnExactCorners", unfollowed := true, recurses := true, apart := false, narrowed := true }
def FnExactCornersUptoSaid : Prop := fnExactCornersUptoRow.holds Try.pinned (OpenSpec.upto fnExactCornersSpec)

/-- 'laws.FnExactEdgesOf', WHERE WHAT IT READS IS OF BULK AT MOST 1048576: true; the input reads as it did. -/
def fnExactEdgesOfUptoRow : OpenClaim := { program := "ytmcjkdbegkdhoaa", sum := "4827565e725b8d8704e397bf75def79778542717f200ebb23564bced3260b886", func := "loop.example/g00125/laws.FnExactEdgesOf", spec := "fnExactEdgesOf", unfollowed := true, recurses := true, apart := false, narrowed := true }
def FnExactEdgesOfUptoSaid : Prop := fnExactEdgesOfUptoRow.holds Try.pinned (OpenSpec.upto fnExactEdgesOfSpec)

end Rows
end Go.Proofs.Ytmcjkdbegkdhoaa
