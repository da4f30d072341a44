/- The pure statement of the law FnExactCmpSpot. -/
import Derived.Test.YtmcjkdbegkdhoaaPrint0
import Derived.Test.YtmcjkdbegkdhoaaPrint14
import Derived.Test.YtmcjkdbegkdhoaaPrint44
import Derived.Test.YtmcjkdbegkdhoaaBase
import Derived.Test.YtmcjkdbegkdhoaaArith
import Derived.Test.YtmcjkdbegkdhoaaDet
import Derived.Test.YtmcjkdbegkdhoaaSpot
namespace Go.Proofs.Ytmcjkdbegkdhoaa.Pure
open Go.RowKit Go.Proofs.Ytmcjkdbegkdhoaa.Print Go.Proofs.YtmcjkdbegkdhoaaW.PrintWords Go.Proofs.YtmcjkdbegkdhoaaW.PrintLast Go.Proofs.YtmcjkdbegkdhoaaW.PrintMore
set_option linter.unusedSimpArgs false
set_option linter.unusedVariables false

theorem FnExactCmpSpot_pure (a b c d e f g h : Int) (_ : (Lit.int .i64 a).wf = true) (_ : (Lit.int .i64 b).wf = true) (_ : (Lit.int .i64 c).wf = true) (_ : (Lit.int .i64 d).wf = true)
    (_ : (Lit.int .i64 e).wf = true) (_ : (Lit.int .i64 f).wf = true) (_ : (Lit.int .i64 g).wf = true) (_ : (Lit.int .i64 h).wf = true) : ∃ k, laws_FnExactCmpSpot.f k a b c d e f g h = some true := by
  obtain ⟨K, hh⟩ := Ev.and (spec_CmpSpot_ev a b c d e f g h) (impl_CmpSpot_ev a b c d e f g h)
  obtain ⟨h1, h2⟩ := hh K (Nat.le_refl _)
  exact ⟨K, by simp [laws_FnExactCmpSpot.f, laws_toSpot.f, h1, h2]⟩

end Go.Proofs.Ytmcjkdbegkdhoaa.Pure
