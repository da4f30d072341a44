/- The pure statement of the law FnExactNumOk. -/
import Derived.Test.YtmcjkdbegkdhoaaPrint0
import Derived.Test.YtmcjkdbegkdhoaaPrint20
import Derived.Test.YtmcjkdbegkdhoaaPrint21
import Derived.Test.YtmcjkdbegkdhoaaPrint22
import Derived.Test.YtmcjkdbegkdhoaaBase
import Derived.Test.YtmcjkdbegkdhoaaArith
import Derived.Test.YtmcjkdbegkdhoaaNum
namespace Go.Proofs.Ytmcjkdbegkdhoaa.Pure
open Go.RowKit Go.Proofs.Ytmcjkdbegkdhoaa.Print Go.Proofs.YtmcjkdbegkdhoaaW.PrintWords Go.Proofs.YtmcjkdbegkdhoaaW.PrintLast Go.Proofs.YtmcjkdbegkdhoaaW.PrintMore
set_option linter.unusedSimpArgs false
set_option linter.unusedVariables false

theorem FnExactNumOk_pure (n : Bool) (l : List Int) (hm : l.length ≤ 9223372036854775807) : ∃ k, laws_FnExactNumOk.f k n l = some true := by
  have hs := szIntS_f (n := 1048576) hm (by omega) (by omega)
  by_cases hl : l.length ≤ 1048576
  · obtain ⟨b, e1, e2⟩ := NumOk_ev n hl
    obtain ⟨K1, h1⟩ := Ev.and e1 e2
    obtain ⟨K2, h2⟩ := Ev.and (toIntS_ev hl) (eqIntS_self hl)
    obtain ⟨g1, g2⟩ := h1 (K1 + K2) (by omega)
    obtain ⟨g3, g4⟩ := h2 (K1 + K2) (by omega)
    refine ⟨K1 + K2, ?_⟩
    rw [if_pos (by omega)] at hs
    simp only [laws_FnExactNumOk.f, laws_szNum.f, hs, Option.bind_some]
    rw [if_neg (by omega), Option.bind_some, if_neg (by omega)]
    simp only [laws_toNum.f, laws_eqNum.f, g1, g2, g3, g4, Option.bind_some, bne_self_eq_false, Bool.false_eq_true, if_false, if_true]
  · rw [if_neg (by omega)] at hs
    refine ⟨0, ?_⟩
    simp [laws_FnExactNumOk.f, laws_szNum.f, hs]
end Go.Proofs.Ytmcjkdbegkdhoaa.Pure
