/- The pure statement of the law FnExactSpotOk. -/
import Derived.Test.YtmcjkdbegkdhoaaPrint0
import Derived.Test.YtmcjkdbegkdhoaaPrint14
import Derived.Test.YtmcjkdbegkdhoaaPrint15
import Derived.Test.YtmcjkdbegkdhoaaBase
import Derived.Test.YtmcjkdbegkdhoaaArith
import Derived.Test.YtmcjkdbegkdhoaaDet
import Derived.Test.YtmcjkdbegkdhoaaSpot
namespace Go.Proofs.Ytmcjkdbegkdhoaa.Pure
open Go.RowKit Go.Proofs.Ytmcjkdbegkdhoaa.Print Go.Proofs.YtmcjkdbegkdhoaaW.PrintWords Go.Proofs.YtmcjkdbegkdhoaaW.PrintLast Go.Proofs.YtmcjkdbegkdhoaaW.PrintMore
set_option linter.unusedSimpArgs false
set_option linter.unusedVariables false

theorem FnExactSpotOk_pure (a b c d : Int) (_ : (Lit.int .i64 a).wf = true) (_ : (Lit.int .i64 b).wf = true) (_ : (Lit.int .i64 c).wf = true) (_ : (Lit.int .i64 d).wf = true) : ∃ k, laws_FnExactSpotOk.f k a b c d = some true := by
  obtain ⟨K, h⟩ := Ev.and (spec_SpotOk_ev a b c d) (impl_SpotOk_ev a b c d)
  obtain ⟨h1, h2⟩ := h K (Nat.le_refl _)
  exact ⟨K, by simp [laws_FnExactSpotOk.f, laws_toSpot.f, h1, h2]⟩

end Go.Proofs.Ytmcjkdbegkdhoaa.Pure
