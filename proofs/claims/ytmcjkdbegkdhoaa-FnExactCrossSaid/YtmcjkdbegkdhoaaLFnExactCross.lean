/- The pure statement of the law FnExactCross. -/
import Derived.Test.YtmcjkdbegkdhoaaPrint0
import Derived.Test.YtmcjkdbegkdhoaaPrint11
import Derived.Test.YtmcjkdbegkdhoaaPrint29
import Derived.Test.YtmcjkdbegkdhoaaBase
import Derived.Test.YtmcjkdbegkdhoaaArith
import Derived.Test.YtmcjkdbegkdhoaaDet
import Derived.Test.YtmcjkdbegkdhoaaPar
namespace Go.Proofs.Ytmcjkdbegkdhoaa.Pure
open Go.RowKit Go.Proofs.Ytmcjkdbegkdhoaa.Print Go.Proofs.YtmcjkdbegkdhoaaW.PrintWords Go.Proofs.YtmcjkdbegkdhoaaW.PrintLast Go.Proofs.YtmcjkdbegkdhoaaW.PrintMore
set_option linter.unusedSimpArgs false
set_option linter.unusedVariables false

theorem FnExactCross_pure (a b c d e f g h : Int) (_ : (Lit.int .i64 a).wf = true) (_ : (Lit.int .i64 b).wf = true) (_ : (Lit.int .i64 c).wf = true) (_ : (Lit.int .i64 d).wf = true)
    (_ : (Lit.int .i64 e).wf = true) (_ : (Lit.int .i64 f).wf = true) (_ : (Lit.int .i64 g).wf = true) (_ : (Lit.int .i64 h).wf = true) : ∃ k, laws_FnExactCross.f k a b c d e f g h = some true := by
  obtain ⟨K1, h1⟩ := spec_Cross_ev a b c d e f g h
  obtain ⟨K2, h2⟩ := impl_Cross_ev a b c d e f g h
  generalize Cr (tk a b c d) (tk e f g h) = r at *
  obtain ⟨K3, h3⟩ := eqIntA3_self r.1 r.2.1 r.2.2
  refine ⟨K1 + K2 + K3, ?_⟩
  have g1 := h1 (K1 + K2 + K3) (by omega)
  have g2 := h2 (K1 + K2 + K3) (by omega)
  have g3 := h3 (K1 + K2 + K3) (by omega)
  simp only at g1 g2 g3
  simp only [laws_FnExactCross.f, laws_toPlane.f, g1, g2, g3, Option.bind_some, if_true]

end Go.Proofs.Ytmcjkdbegkdhoaa.Pure
