-- Printed by a program of the session (mkprinter.py, over the kit's print); Lean checks it.
import Derived.Test.YtondijjpkkiggaaProg
import Derived.Below
import Derived.Deep.Draws
import Derived.Deep.AppendLies
import Derived.Maps.AppendAt
import Derived.OwnWalk
import Derived.Laws.BytesArg
import Derived.Laws.MakeOwn
import Derived.Laws.OwnMore
import Derived.Deep.OwnRows
import Derived.Tactics
import Derived.Lib.ConvBytes
import Derived.Laws.Slices
import Derived.WalkKit
import Derived.KernelRfl
import Derived.RowKit3
import Derived.Deep.LoopGhost
import Derived.Deep.QuietTactic
import Derived.BigQuiet
import Derived.WideLaws
import Derived.Deep.DeepCutAuto
import Derived.Deep.CutBlock
import Derived.Deep.RegionHeld3
import Derived.Laws.Rows
import Derived.Lib.AppendStr
import Derived.ArgAppend
import Derived.Laws.IdiomCopy
import Derived.OrdersHeld
import Derived.Laws.BitsLemmas
import Derived.RowKit
import Derived.Test.YtondijjpkkiggaaWWords
import Derived.Test.YtondijjpkkiggaaWLast
import Derived.Test.YtondijjpkkiggaaWTab
import Derived.Test.YtondijjpkkiggaaWFour
import Derived.Test.YtondijjpkkiggaaWQPut
import Derived.Test.YtondijjpkkiggaaWApart
import Derived.Test.YtondijjpkkiggaaWArr
import Derived.Test.YtondijjpkkiggaaWZeros
import Derived.Test.YtondijjpkkiggaaWFoot
import Derived.Test.YtondijjpkkiggaaWKept
import Derived.Test.YtondijjpkkiggaaWShare
import Derived.Test.YtondijjpkkiggaaWN
import Derived.Test.YtondijjpkkiggaaWAt
import Derived.Test.YtondijjpkkiggaaWFootNe
import Derived.Test.YtondijjpkkiggaaWEqStruct
import Derived.Test.YtondijjpkkiggaaWRepsOne
import Derived.Test.YtondijjpkkiggaaWInv
import Derived.Test.YtondijjpkkiggaaWInvWords
import Derived.Test.YtondijjpkkiggaaWGuard
import Derived.Test.YtondijjpkkiggaaWNEv
import Derived.Test.YtondijjpkkiggaaWMore
namespace Go.Proofs.Ytondijjpkkiggaa.Print
open Go.RowKit Go.Proofs.YtondijjpkkiggaaW.PrintWords Go.Proofs.YtondijjpkkiggaaW.PrintLast Go.Proofs.YtondijjpkkiggaaW.PrintMore
attribute [local go_sem] max2_int min2_int max_two min_two max_three min_three max_four min_four   -- for this text's walks alone
set_option linter.unusedVariables false
set_option linter.unusedSimpArgs false



def errW : Option Int → Value
  | none => .nilIface
  | some c => .iface 0 (.int .i64 c)
theorem errW_none : errW none = .nilIface := rfl
theorem errW_some (c : Int) : errW (some c) = .iface 0 (.int .i64 c) := rfl

theorem info3 : (Try.prog.info? 3).map (fun i => (i.zero, i.size, i.bytes)) = some (some (.int .i64 0), 1, 8) := by kernel_rfl
-- the values' own types

end Go.Proofs.Ytondijjpkkiggaa.Print
