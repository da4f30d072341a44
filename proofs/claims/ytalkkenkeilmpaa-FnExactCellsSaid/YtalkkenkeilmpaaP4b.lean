/- A plane more; a plane the other way round. -/
import Derived.Test.YtalkkenkeilmpaaP4
namespace Go.Proofs.Ytalkkenkeilmpaa.Q
open Go Go.RowKit Go.Proofs Go.Proofs.Ytalkkenkeilmpaa.Ev Go.Proofs.Ytalkkenkeilmpaa.G
set_option linter.unusedSimpArgs false
set_option linter.unusedVariables false

theorem with_f (k : Nat) {L : List S4} {p : S4} (h : L.length ≤ 2097152) : impl_with.f k L p = some (L ++ [p]) := by
  simp only [impl_with.f, List.nil_append, List.length_nil, List.length_append, List.length_cons]
  rw [if_pos (lt47_ok (by omega)), if_pos (lt47_ok (by omega))]
def flp (p : S4) : S4 := ⟨-p.a, -p.b, -p.c, -p.d⟩
theorem l3Flip_f (k : Nat) {p : S4} (h : Bd4 p) : spec_l3Flip.f k p = some (flp p) := by
  obtain ⟨⟨h1, h2, h3⟩, h4⟩ := h
  simp only [v3] at h1 h2 h3
  simp only [spec_l3Flip.f, flp]
  rw [W_neg (by omega), W_neg (by omega), W_neg (by omega), W_neg (by omega)]
theorem flip_f (k : Nat) {p : S4} (h : Bd4 p) : impl_flip.f k p = some (flp p) := l3Flip_f k h
theorem flp_ok {p : S4} (h : okp p = true) : okp (flp p) = true := by
  rw [okp_iff] at h ⊢
  obtain ⟨h1, h2, h3, h4, h5, h6⟩ := h
  simp only [PlOk, flp, Int.natAbs_neg]
  exact ⟨by omega, by omega, by omega, by omega, by omega, h6⟩
end Go.Proofs.Ytalkkenkeilmpaa.Q
