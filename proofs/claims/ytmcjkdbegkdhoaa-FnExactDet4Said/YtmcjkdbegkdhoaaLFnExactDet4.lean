/- The pure statement of the law FnExactDet4. -/
import Derived.Test.YtmcjkdbegkdhoaaPrint0
import Derived.Test.YtmcjkdbegkdhoaaPrint11
import Derived.Test.YtmcjkdbegkdhoaaPrint38
import Derived.Test.YtmcjkdbegkdhoaaBase
import Derived.Test.YtmcjkdbegkdhoaaArith
import Derived.Test.YtmcjkdbegkdhoaaDet
namespace Go.Proofs.Ytmcjkdbegkdhoaa.Pure
open Go.RowKit Go.Proofs.Ytmcjkdbegkdhoaa.Print Go.Proofs.YtmcjkdbegkdhoaaW.PrintWords Go.Proofs.YtmcjkdbegkdhoaaW.PrintLast Go.Proofs.YtmcjkdbegkdhoaaW.PrintMore
set_option linter.unusedSimpArgs false
set_option linter.unusedVariables false

theorem FnExactDet4_pure (a b c d e f g h i j l m u v w x : Int) (_ : (Lit.int .i64 a).wf = true) (_ : (Lit.int .i64 b).wf = true) (_ : (Lit.int .i64 c).wf = true) (_ : (Lit.int .i64 d).wf = true)
    (_ : (Lit.int .i64 e).wf = true) (_ : (Lit.int .i64 f).wf = true) (_ : (Lit.int .i64 g).wf = true) (_ : (Lit.int .i64 h).wf = true) (_ : (Lit.int .i64 i).wf = true) (_ : (Lit.int .i64 j).wf = true) (_ : (Lit.int .i64 l).wf = true) (_ : (Lit.int .i64 m).wf = true)
    (_ : (Lit.int .i64 u).wf = true) (_ : (Lit.int .i64 v).wf = true) (_ : (Lit.int .i64 w).wf = true) (_ : (Lit.int .i64 x).wf = true) :
    ∃ k, laws_FnExactDet4.f k a b c d e f g h i j l m u v w x = some true := by
  obtain ⟨K, hh⟩ := Ev.and (spec_Det4_ev a b c d e f g h i j l m u v w x) (impl_Det4_ev a b c d e f g h i j l m u v w x)
  obtain ⟨h1, h2⟩ := hh K (Nat.le_refl _)
  exact ⟨K, by simp [laws_FnExactDet4.f, laws_toPlane.f, h1, h2]⟩
end Go.Proofs.Ytmcjkdbegkdhoaa.Pure
