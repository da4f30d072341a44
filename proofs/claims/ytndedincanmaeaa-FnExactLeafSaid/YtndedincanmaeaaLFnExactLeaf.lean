/- The law FnExactLeaf, plain: no program in sight but for the printed functions. -/
import Derived.Test.YtndedincanmaeaaPrint0
import Derived.Test.YtndedincanmaeaaPrint3
namespace Go.Proofs.Ytndedincanmaeaa.Pure
open Go.RowKit Go.Proofs.Ytndedincanmaeaa.Print Go.Proofs.YtndedincanmaeaaW.PrintWords Go.Proofs.YtndedincanmaeaaW.PrintLast Go.Proofs.YtndedincanmaeaaW.PrintMore
set_option linter.unusedSimpArgs false
set_option linter.unusedVariables false
theorem FnExactLeaf_pure (a : Bool) : ∃ k, laws_FnExactLeaf.f k a = some true := by
  refine ⟨3, ?_⟩
  cases a <;> rfl
end Go.Proofs.Ytndedincanmaeaa.Pure
