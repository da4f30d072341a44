/-
  No cell of these rows narrows 'for every input' (looked for: loops, veiled, ifaces, maps, wideKeys, modest, calm, conditions, laid).
  DERIVED. THE GIVEN ROWS OF THIS SEAT. 12 by the template 'for every input the law returns true; each argument reads behind the call as it read before'; 0 by the template 'total and deterministic' (their statements: YtondijjpkkiggaaTotals.lean).
  GIVEN WITH THE SEED: the statements are not yours to turn. If you find one false, say at which input.
  Laid BY PROGRAM, IN A SANDBOX (cutbox-rows.mjs): the forced cells as the released guide's own fill.sh prints them over the translation 6731e9c90a0bbe73… (all of the seat's roots in one cut). By AI agents, Wed Nov 11 2026. No macro, syntax, notation, axiom, sorry.
-/
import Derived.Test.YtondijjpkkiggaaChecked
import GoSem.Claim
import GoSem.ClaimJoined
import GoSem.ClaimMapViews
import Derived.JoinedTies
import Derived.KernelRfl
namespace Go.Proofs.Ytondijjpkkiggaa
/- THE CELL 'sum', in the pinned program and in every row, IS THE sha256 OF THE DUMP (.gsa) THAT YtondijjpkkiggaaProg.lean LOADS. Nothing in Lean hashes anything: it is a label: what it is worth is what the hold of that sum in a sandbox is worth. -/
noncomputable def Try.pinned : Pinned := { name := "ytondijjpkkiggaa", sum := "6731e9c90a0bbe7366a340ebc1686a2b2978884756bb64beece3a1156bc52d41", checked := Try.checked }
namespace Rows
def none {H : Type} : Left H := { results := [], args := [] }

/-- 'laws.FnExactConstants': WHATEVER THE INPUT: true; the input reads as it did. -/
def fnExactConstantsSpec : ChangeSpec := { name := "fnExactConstants", fn := fun _ => fun
  | [] => { results := [.lit (.bool true)], args := [] }
  | _ => none }
def fnExactConstantsRow : OpenClaim := { program := "ytondijjpkkiggaa", sum := "6731e9c90a0bbe7366a340ebc1686a2b2978884756bb64beece3a1156bc52d41", func := "loop.example/g00125/laws.FnExactConstants", spec := "fnExactConstants", apart := false }
def FnExactConstantsSaid : Prop := fnExactConstantsRow.holds Try.pinned (OpenSpec.ofChange fnExactConstantsSpec)

/-- ITS FALSE NEIGHBOUR: 'it returns false'. Refute it at one input. -/
def fnExactConstantsWrong : ChangeSpec := { name := "fnExactConstants", fn := fun _ => fun
  | [] => { results := [.lit (.bool false)], args := [] }
  | _ => none }
def FnExactConstantsWrongFalsely : Prop := fnExactConstantsRow.holds Try.pinned (OpenSpec.ofChange fnExactConstantsWrong)

/-- 'laws.FnExactPtOk': WHATEVER THE INPUT: true; the input reads as it did. -/
def fnExactPtOkSpec : ChangeSpec := { name := "fnExactPtOk", fn := fun _ => fun
  | [d] => { results := [.lit (.bool true)], args := [d] }
  | _ => none }
def fnExactPtOkRow : OpenClaim := { program := "ytondijjpkkiggaa", sum := "6731e9c90a0bbe7366a340ebc1686a2b2978884756bb64beece3a1156bc52d41", func := "loop.example/g00125/laws.FnExactPtOk", spec := "fnExactPtOk", apart := false }
def FnExactPtOkSaid : Prop := fnExactPtOkRow.holds Try.pinned (OpenSpec.ofChange fnExactPtOkSpec)

/-- ITS FALSE NEIGHBOUR: 'it returns false'. Refute it at one input. -/
def fnExactPtOkWrong : ChangeSpec := { name := "fnExactPtOk", fn := fun _ => fun
  | [d] => { results := [.lit (.bool false)], args := [d] }
  | _ => none }
def FnExactPtOkWrongFalsely : Prop := fnExactPtOkRow.holds Try.pinned (OpenSpec.ofChange fnExactPtOkWrong)

/-- 'laws.FnExactSpotOk': WHATEVER THE INPUT: true; the input reads as it did. -/
def fnExactSpotOkSpec : ChangeSpec := { name := "fnExactSpotOk", fn := fun _ => fun
  | [d] => { results := [.lit (.bool true)], args := [d] }
  | _ => none }
def fnExactSpotOkRow : OpenClaim := { program := "ytondijjpkkiggaa", sum := "6731e9c90a0bbe7366a340ebc1686a2b2978884756bb64beece3a1156bc52d41", func := "loop.example/g00125/laws.FnExactSpotOk", spec := "fnExactSpotOk", apart := false }
def FnExactSpotOkSaid : Prop := fnExactSpotOkRow.holds Try.pinned (OpenSpec.ofChange fnExactSpotOkSpec)

/-- ITS FALSE NEIGHBOUR: 'it returns false'. Refute it at one input. -/
def fnExactSpotOkWrong : ChangeSpec := { name := "fnExactSpotOk", fn := fun _ => fun
  | [d] => { results := [.lit (.bool false)], args := [d] }
  | _ => none }
def FnExactSpotOkWrongFalsely : Prop := fnExactSpotOkRow.holds Try.pinned (OpenSpec.ofChange fnExactSpotOkWrong)

/-- 'laws.FnExactPlaneOk': WHATEVER THE INPUT: true; the input reads as it did. -/
def fnExactPlaneOkSpec : ChangeSpec := { name := "fnExactPlaneOk", fn := fun _ => fun
  | [d] => { results := [.lit (.bool true)], args := [d] }
  | _ => none }
def fnExactPlaneOkRow : OpenClaim := { program := "ytondijjpkkiggaa", sum := "6731e9c90a0bbe7366a340ebc1686a2b2978884756bb64beece3a1156bc52d41", func := "loop.example/g00125/laws.FnExactPlaneOk", spec := "fnExactPlaneOk", apart := false }
def FnExactPlaneOkSaid : Prop := fnExactPlaneOkRow.holds Try.pinned (OpenSpec.ofChange fnExactPlaneOkSpec)

/-- ITS FALSE NEIGHBOUR: 'it returns false'. Refute it at one input. -/
def fnExactPlaneOkWrong : ChangeSpec := { name := "fnExactPlaneOk", fn := fun _ => fun
  | [d] => { results := [.lit (.bool false)], args := [d] }
  | _ => none }
def FnExactPlaneOkWrongFalsely : Prop := fnExactPlaneOkRow.holds Try.pinned (OpenSpec.ofChange fnExactPlaneOkWrong)

/-- 'laws.FnExactCmpPlane': WHATEVER THE INPUT: true; the input reads as it did. -/
def fnExactCmpPlaneSpec : ChangeSpec := { name := "fnExactCmpPlane", fn := fun _ => fun
  | [d1, d2] => { results := [.lit (.bool true)], args := [d1, d2] }
  | _ => none }
def fnExactCmpPlaneRow : OpenClaim := { program := "ytondijjpkkiggaa", sum := "6731e9c90a0bbe7366a340ebc1686a2b2978884756bb64beece3a1156bc52d41", func := "loop.example/g00125/laws.FnExactCmpPlane", spec := "fnExactCmpPlane", apart := false }
def FnExactCmpPlaneSaid : Prop := fnExactCmpPlaneRow.holds Try.pinned (OpenSpec.ofChange fnExactCmpPlaneSpec)

/-- ITS FALSE NEIGHBOUR: 'it returns false'. Refute it at one input. -/
def fnExactCmpPlaneWrong : ChangeSpec := { name := "fnExactCmpPlane", fn := fun _ => fun
  | [d1, d2] => { results := [.lit (.bool false)], args := [d1, d2] }
  | _ => none }
def FnExactCmpPlaneWrongFalsely : Prop := fnExactCmpPlaneRow.holds Try.pinned (OpenSpec.ofChange fnExactCmpPlaneWrong)

/-- 'laws.FnExactNumOk': WHATEVER THE INPUT: true; the input reads as it did. -/
def fnExactNumOkSpec : ChangeSpec := { name := "fnExactNumOk", fn := fun _ => fun
  | [d] => { results := [.lit (.bool true)], args := [d] }
  | _ => none }
def fnExactNumOkRow : OpenClaim := { program := "ytondijjpkkiggaa", sum := "6731e9c90a0bbe7366a340ebc1686a2b2978884756bb64beece3a1156bc52d41", func := "loop.example/g00125/laws.FnExactNumOk", spec := "fnExactNumOk", apart := false }
def FnExactNumOkSaid : Prop := fnExactNumOkRow.holds Try.pinned (OpenSpec.ofChange fnExactNumOkSpec)

/-- ITS FALSE NEIGHBOUR: 'it returns false'. Refute it at one input. -/
def fnExactNumOkWrong : ChangeSpec := { name := "fnExactNumOk", fn := fun _ => fun
  | [d] => { results := [.lit (.bool false)], args := [d] }
  | _ => none }
def FnExactNumOkWrongFalsely : Prop := fnExactNumOkRow.holds Try.pinned (OpenSpec.ofChange fnExactNumOkWrong)

/-- 'laws.FnExactFlip': WHATEVER THE INPUT: true; the input reads as it did. -/
def fnExactFlipSpec : ChangeSpec := { name := "fnExactFlip", fn := fun _ => fun
  | [d] => { results := [.lit (.bool true)], args := [d] }
  | _ => none }
def fnExactFlipRow : OpenClaim := { program := "ytondijjpkkiggaa", sum := "6731e9c90a0bbe7366a340ebc1686a2b2978884756bb64beece3a1156bc52d41", func := "loop.example/g00125/laws.FnExactFlip", spec := "fnExactFlip", apart := false }
def FnExactFlipSaid : Prop := fnExactFlipRow.holds Try.pinned (OpenSpec.ofChange fnExactFlipSpec)

/-- ITS FALSE NEIGHBOUR: 'it returns false'. Refute it at one input. -/
def fnExactFlipWrong : ChangeSpec := { name := "fnExactFlip", fn := fun _ => fun
  | [d] => { results := [.lit (.bool false)], args := [d] }
  | _ => none }
def FnExactFlipWrongFalsely : Prop := fnExactFlipRow.holds Try.pinned (OpenSpec.ofChange fnExactFlipWrong)

/-- 'laws.FnExactCross': WHATEVER THE INPUT: true; the input reads as it did. -/
def fnExactCrossSpec : ChangeSpec := { name := "fnExactCross", fn := fun _ => fun
  | [d1, d2] => { results := [.lit (.bool true)], args := [d1, d2] }
  | _ => none }
def fnExactCrossRow : OpenClaim := { program := "ytondijjpkkiggaa", sum := "6731e9c90a0bbe7366a340ebc1686a2b2978884756bb64beece3a1156bc52d41", func := "loop.example/g00125/laws.FnExactCross", spec := "fnExactCross", apart := false }
def FnExactCrossSaid : Prop := fnExactCrossRow.holds Try.pinned (OpenSpec.ofChange fnExactCrossSpec)

/-- ITS FALSE NEIGHBOUR: 'it returns false'. Refute it at one input. -/
def fnExactCrossWrong : ChangeSpec := { name := "fnExactCross", fn := fun _ => fun
  | [d1, d2] => { results := [.lit (.bool false)], args := [d1, d2] }
  | _ => none }
def FnExactCrossWrongFalsely : Prop := fnExactCrossRow.holds Try.pinned (OpenSpec.ofChange fnExactCrossWrong)

/-- 'laws.FnExactDet3': WHATEVER THE INPUT: true; the input reads as it did. -/
def fnExactDet3Spec : ChangeSpec := { name := "fnExactDet3", fn := fun _ => fun
  | [d1, d2, d3] => { results := [.lit (.bool true)], args := [d1, d2, d3] }
  | _ => none }
def fnExactDet3Row : OpenClaim := { program := "ytondijjpkkiggaa", sum := "6731e9c90a0bbe7366a340ebc1686a2b2978884756bb64beece3a1156bc52d41", func := "loop.example/g00125/laws.FnExactDet3", spec := "fnExactDet3", apart := false }
def FnExactDet3Said : Prop := fnExactDet3Row.holds Try.pinned (OpenSpec.ofChange fnExactDet3Spec)

/-- ITS FALSE NEIGHBOUR: 'it returns false'. Refute it at one input. -/
def fnExactDet3Wrong : ChangeSpec := { name := "fnExactDet3", fn := fun _ => fun
  | [d1, d2, d3] => { results := [.lit (.bool false)], args := [d1, d2, d3] }
  | _ => none }
def FnExactDet3WrongFalsely : Prop := fnExactDet3Row.holds Try.pinned (OpenSpec.ofChange fnExactDet3Wrong)

/-- 'laws.FnExactDet4': WHATEVER THE INPUT: true; the input reads as it did. -/
def fnExactDet4Spec : ChangeSpec := { name := "fnExactDet4", fn := fun _ => fun
  | [d1, d2, d3, d4] => { results := [.lit (.bool true)], args := [d1, d2, d3, d4] }
  | _ => none }
def fnExactDet4Row : OpenClaim := { program := "ytondijjpkkiggaa", sum := "6731e9c90a0bbe7366a340ebc1686a2b2978884756bb64beece3a1156bc52d41", func := "loop.example/g00125/laws.FnExactDet4", spec := "fnExactDet4", apart := false }
def FnExactDet4Said : Prop := fnExactDet4Row.holds Try.pinned (OpenSpec.ofChange fnExactDet4Spec)

/-- ITS FALSE NEIGHBOUR: 'it returns false'. Refute it at one input. -/
def fnExactDet4Wrong : ChangeSpec := { name := "fnExactDet4", fn := fun _ => fun
  | [d1, d2, d3, d4] => { results := [.lit (.bool false)], args := [d1, d2, d3, d4] }
  | _ => none }
def FnExactDet4WrongFalsely : Prop := fnExactDet4Row.holds Try.pinned (OpenSpec.ofChange fnExactDet4Wrong)

/-- 'laws.FnExactSideOf': WHATEVER THE INPUT: true; the input reads as it did. -/
def fnExactSideOfSpec : ChangeSpec := { name := "fnExactSideOf", fn := fun _ => fun
  | [d1, d2] => { results := [.lit (.bool true)], args := [d1, d2] }
  | _ => none }
def fnExactSideOfRow : OpenClaim := { program := "ytondijjpkkiggaa", sum := "6731e9c90a0bbe7366a340ebc1686a2b2978884756bb64beece3a1156bc52d41", func := "loop.example/g00125/laws.FnExactSideOf", spec := "fnExactSideOf", apart := false }
def FnExactSideOfSaid : Prop := fnExactSideOfRow.holds Try.pinned (OpenSpec.ofChange fnExactSideOfSpec)

/-- ITS FALSE NEIGHBOUR: 'it returns false'. Refute it at one input. -/
def fnExactSideOfWrong : ChangeSpec := { name := "fnExactSideOf", fn := fun _ => fun
  | [d1, d2] => { results := [.lit (.bool false)], args := [d1, d2] }
  | _ => none }
def FnExactSideOfWrongFalsely : Prop := fnExactSideOfRow.holds Try.pinned (OpenSpec.ofChange fnExactSideOfWrong)

/-- 'laws.FnExactCmpSpot': WHATEVER THE INPUT: true; the input reads as it did. -/
def fnExactCmpSpotSpec : ChangeSpec := { name := "fnExactCmpSpot", fn := fun _ => fun
  | [d1, d2] => { results := [.lit (.bool true)], args := [d1, d2] }
  | _ => none }
def fnExactCmpSpotRow : OpenClaim := { program := "ytondijjpkkiggaa", sum := "6731e9c90a0bbe7366a340ebc1686a2b2978884756bb64beece3a1156bc52d41", func := "loop.example/g00125/laws.FnExactCmpSpot", spec := "fnExactCmpSpot", apart := false }
def FnExactCmpSpotSaid : Prop := fnExactCmpSpotRow.holds Try.pinned (OpenSpec.ofChange fnExactCmpSpotSpec)

/-- ITS FALSE NEIGHBOUR: 'it returns false'. Refute it at one input. -/
def fnExactCmpSpotWrong : ChangeSpec := { name := "fnExactCmpSpot", fn := fun _ => fun
  | [d1, d2] => { results := [.lit (.bool false)], args := [d1, d2] }
  | _ => none }
def FnExactCmpSpotWrongFalsely : Prop := fnExactCmpSpotRow.holds Try.pinned (OpenSpec.ofChange fnExactCmpSpotWrong)

/- THE SECOND FORM. 'bulk': how many values and letters a reading holds, each counted each time it is reached (what is shared counts as often as it is met; a slice's spare places count too). A statement '..UptoSaid' is the law's where the arguments, and the package variables that the reading takes, are together of bulk at most 1048576: NARROWER than '..Said'. Prove '..Said' where nothing that the law and all that it calls make is longer than what came in: it says more and counts as full. Else prove '..UptoSaid'. A law counts once. -/
mutual
def uptoBulk {H : Type} : DataW H → Nat
  | .lit (.string bytes) => bytes.length + 1
  | .lit _ => 1
  | .nil => 1
  | .ptr d => uptoBulk d + 1
  | .slice elems spare => uptoBulkAll elems + uptoBulkAll spare + 1
  | .agg parts => uptoBulkAll parts + 1
  | .iface _ d => uptoBulk d + 1
  | .map entries => uptoBulkEntries entries + 1
  | .held _ => 1
def uptoBulkAll {H : Type} : List (DataW H) → Nat
  | [] => 0
  | d :: r => uptoBulk d + uptoBulkAll r
def uptoBulkEntries {H : Type} : List (Lit × DataW H) → Nat
  | [] => 0
  | x :: r => uptoBulkEntry x + uptoBulkEntries r
def uptoBulkEntry {H : Type} : Lit × DataW H → Nat
  | (.string bytes, d) => bytes.length + uptoBulk d + 1
  | (_, d) => uptoBulk d + 1
 end
def uptoSmall : (H : Type) → List (DataW H) → Bool := fun _ ds => decide (uptoBulkAll ds ≤ 1048576)
def OpenSpec.upto (s : _root_.Go.ChangeSpec) : _root_.Go.OpenSpec := { _root_.Go.OpenSpec.ofChange s with cond := some uptoSmall }

/-- 'laws.FnExactConstants', WHERE WHAT IT READS IS OF BULK AT MOST 1048576: true; the input reads as it did. -/
def fnExactConstantsUptoRow : OpenClaim := { program := "ytondijjpkkiggaa", sum := "6731e9c90a0bbe7366a340ebc1686a2b2978884756bb64beece3a1156bc52d41", func := "loop.example/g00125/laws.FnExactConstants", spec := "fnExactConstants", apart := false, narrowed := true }
def FnExactConstantsUptoSaid : Prop := fnExactConstantsUptoRow.holds Try.pinned (OpenSpec.upto fnExactConstantsSpec)

/-- 'laws.FnExactPtOk', WHERE WHAT IT READS IS OF BULK AT MOST 1048576: true; the input reads as it did. -/
def fnExactPtOkUptoRow : OpenClaim := { program := "ytondijjpkkiggaa", sum := "6731e9c90a0bbe7366a340ebc1686a2b2978884756bb64beece3a1156bc52d41", func := "loop.example/g00125/laws.FnExactPtOk", spec := "fnExactPtOk", apart := false, narrowed := true }
def FnExactPtOkUptoSaid : Prop := fnExactPtOkUptoRow.holds Try.pinned (OpenSpec.upto fnExactPtOkSpec)

/-- 'laws.FnExactSpotOk', WHERE WHAT IT READS IS OF BULK AT MOST 1048576: true; the input reads as it did. -/
def fnExactSpotOkUptoRow : OpenClaim := { program := "ytondijjpkkiggaa", sum := "6731e9c90a0bbe7366a340ebc1686a2b2978884756bb64beece3a1156bc52d41", func := "loop.example/g00125/laws.FnExactSpotOk", spec := "fnExactSpotOk", apart := false, narrowed := true }
def FnExactSpotOkUptoSaid : Prop := fnExactSpotOkUptoRow.holds Try.pinned (OpenSpec.upto fnExactSpotOkSpec)

/-- 'laws.FnExactPlaneOk', WHERE WHAT IT READS IS OF BULK AT MOST 1048576: true; the input reads as it did. -/
def fnExactPlaneOkUptoRow : OpenClaim := { program := "ytondijjpkkiggaa", sum := "6731e9c90a0bbe7366a340ebc1686a2b2978884756bb64beece3a1156bc52d41", func := "loop.example/g00125/laws.FnExactPlaneOk", spec := "fnExactPlaneOk", apart := false, narrowed := true }
def FnExactPlaneOkUptoSaid : Prop := fnExactPlaneOkUptoRow.holds Try.pinned (OpenSpec.upto fnExactPlaneOkSpec)

/-- 'laws.FnExactCmpPlane', WHERE WHAT IT READS IS OF BULK AT MOST 1048576: true; the input reads as it did. -/
def fnExactCmpPlaneUptoRow : OpenClaim := { program := "ytondijjpkkiggaa", sum := "6731e9c90a0bbe7366a340ebc1686a2b2978884756bb64beece3a1156bc52d41", func := "loop.example/g00125/laws.FnExactCmpPlane", spec := "fnExactCmpPlane", apart := false, narrowed := true }
def FnExactCmpPlaneUptoSaid : Prop := fnExactCmpPlaneUptoRow.holds Try.pinned (OpenSpec.upto fnExactCmpPlaneSpec)

/-- 'laws.FnExactNumOk', WHERE WHAT IT READS IS OF BULK AT MOST 1048576: true; the input reads as it did. -/
def fnExactNumOkUptoRow : OpenClaim := { program := "ytondijjpkkiggaa", sum := "6731e9c90a0bbe7366a340ebc1686a2b2978884756bb64beece3a1156bc52d41", func := "loop.example/g00125/laws.FnExactNumOk", spec := "fnExactNumOk", apart := false, narrowed := true }
def FnExactNumOkUptoSaid : Prop := fnExactNumOkUptoRow.holds Try.pinned (OpenSpec.upto fnExactNumOkSpec)

/-- 'laws.FnExactFlip', WHERE WHAT IT READS IS OF BULK AT MOST 1048576: true; the input reads as it did. -/
def fnExactFlipUptoRow : OpenClaim := { program := "ytondijjpkkiggaa", sum := "6731e9c90a0bbe7366a340ebc1686a2b2978884756bb64beece3a1156bc52d41", func := "loop.example/g00125/laws.FnExactFlip", spec := "fnExactFlip", apart := false, narrowed := true }
def FnExactFlipUptoSaid : Prop := fnExactFlipUptoRow.holds Try.pinned (OpenSpec.upto fnExactFlipSpec)

/-- 'laws.FnExactCross', WHERE WHAT IT READS IS OF BULK AT MOST 1048576: true; the input reads as it did. -/
def fnExactCrossUptoRow : OpenClaim := { program := "ytondijjpkkiggaa", sum := "6731e9c90a0bbe7366a340ebc1686a2b2978884756bb64beece3a1156bc52d41", func := "loop.example/g00125/laws.FnExactCross", spec := "fnExactCross", apart := false, narrowed := true }
def FnExactCrossUptoSaid : Prop := fnExactCrossUptoRow.holds Try.pinned (OpenSpec.upto fnExactCrossSpec)

/-- 'laws.FnExactDet3', WHERE WHAT IT READS IS OF BULK AT MOST 1048576: true; the input reads as it did. -/
def fnExactDet3UptoRow : OpenClaim := { program := "ytondijjpkkiggaa", sum := "6731e9c90a0bbe7366a340ebc1686a2b2978884756bb64beece3a1156bc52d41", func := "loop.example/g00125/laws.FnExactDet3", spec := "fnExactDet3", apart := false, narrowed := true }
def FnExactDet3UptoSaid : Prop := fnExactDet3UptoRow.holds Try.pinned (OpenSpec.upto fnExactDet3Spec)

/-- 'laws.FnExactDet4', WHERE WHAT IT READS IS OF BULK AT MOST 1048576: true; the input reads as it did. -/
def fnExactDet4UptoRow : OpenClaim := { program := "ytondijjpkkiggaa", sum := "6731e9c90a0bbe7366a340ebc1686a2b2978884756bb64beece3a1156bc52d41", func := "loop.example/g00125/laws.FnExactDet4", spec := "fnExactDet4", apart := false, narrowed := true }
def FnExactDet4UptoSaid : Prop := fnExactDet4UptoRow.holds Try.pinned (OpenSpec.upto fnExactDet4Spec)

/-- 'laws.FnExactSideOf', WHERE WHAT IT READS IS OF BULK AT MOST 1048576: true; the input reads as it did. -/
def fnExactSideOfUptoRow : OpenClaim := { program := "ytondijjpkkiggaa", sum := "6731e9c90a0bbe7366a340ebc1686a2b2978884756bb64beece3a1156bc52d41", func := "loop.example/g00125/laws.FnExactSideOf", spec := "fnExactSideOf", apart := false, narrowed := true }
def FnExactSideOfUptoSaid : Prop := fnExactSideOfUptoRow.holds Try.pinned (OpenSpec.upto fnExactSideOfSpec)

/-- 'laws.FnExactCmpSpot', WHERE WHAT IT READS IS OF BULK AT MOST 1048576: true; the input reads as it did. -/
def fnExactCmpSpotUptoRow : OpenClaim := { program := "ytondijjpkkiggaa", sum := "6731e9c90a0bbe7366a340ebc1686a2b2978884756bb64beece3a1156bc52d41", func := "loop.example/g00125/laws.FnExactCmpSpot", spec := "fnExactCmpSpot", apart := false, narrowed := true }
def FnExactCmpSpotUptoSaid : Prop := fnExactCmpSpotUptoRow.holds Try.pinned (OpenSpec.upto fnExactCmpSpotSpec)

end Rows
end Go.Proofs.Ytondijjpkkiggaa
