/- The cross of two planes' rows; parallel planes; the laws on these. -/
import Derived.Test.YtmcjkdbegkdhoaaPrint0
import Derived.Test.YtmcjkdbegkdhoaaPrint26
import Derived.Test.YtmcjkdbegkdhoaaPrint28
import Derived.Test.YtmcjkdbegkdhoaaPrint34
import Derived.Test.YtmcjkdbegkdhoaaPrint45
import Derived.Test.YtmcjkdbegkdhoaaPrint46
import Derived.Test.YtmcjkdbegkdhoaaBase
import Derived.Test.YtmcjkdbegkdhoaaArith
import Derived.Test.YtmcjkdbegkdhoaaDet
namespace Go.Proofs.Ytmcjkdbegkdhoaa.Pure
open Go.RowKit Go.Proofs.Ytmcjkdbegkdhoaa.Print Go.Proofs.YtmcjkdbegkdhoaaW.PrintWords Go.Proofs.YtmcjkdbegkdhoaaW.PrintLast Go.Proofs.YtmcjkdbegkdhoaaW.PrintMore
set_option linter.unusedSimpArgs false
set_option linter.unusedVariables false

/-- the cross of two rows, modulo 2^64 -/
def cr (a b c e f g : Int) : Int × Int × Int := (wrap64 (b * g - c * f), wrap64 (c * e - a * g), wrap64 (a * f - b * e))
theorem l4Cross_f (a b c d e f g h : Int) : spec_l4Cross.f a b c d e f g h = some (cr a b c e f g) := by
  simp only [spec_l4Cross.f, cr, wr_sub_l, wr_sub_r]
theorem crossOf_f (a b c e f g : Int) : impl_crossOf.f a b c e f g = some (cr a b c e f g) := by
  simp only [impl_crossOf.f, cr, wr_sub_l, wr_sub_r]
theorem dot_f (a b c e f g : Int) : impl_dot.f a b c e f g = some (wrap64 (a * e + b * f + c * g)) := by
  simp only [impl_dot.f, wr_add_l, wr_add_r]
def Cr (p q : Int × Int × Int × Int) : Int × Int × Int := cr p.1 p.2.1 p.2.2.1 q.1 q.2.1 q.2.2.1
theorem spec_Cross_ev (a b c d e f g h : Int) : Ev (fun k => spec_Cross.f k a b c d e f g h) (Cr (tk a b c d) (tk e f g h)) := by
  obtain ⟨K1, h1⟩ := l4Plane_ev a b c d
  obtain ⟨K2, h2⟩ := l4Plane_ev e f g h
  refine ⟨K1 + K2, fun k hk => ?_⟩
  have g1 := h1 k (by omega)
  have g2 := h2 k (by omega)
  simp only at g1 g2
  simp only [spec_Cross.f, g1, g2, Option.bind_some, l4Cross_f, Cr]
theorem impl_Cross_ev (a b c d e f g h : Int) : Ev (fun k => impl_Cross.f k a b c d e f g h) (Cr (tk a b c d) (tk e f g h)) := by
  obtain ⟨K1, h1⟩ := taken_ev a b c d
  obtain ⟨K2, h2⟩ := taken_ev e f g h
  refine ⟨K1 + K2, fun k hk => ?_⟩
  have g1 := h1 k (by omega)
  have g2 := h2 k (by omega)
  simp only at g1 g2
  simp only [impl_Cross.f, g1, g2, Option.bind_some, impl_normal.f, crossOf_f, Cr]
theorem eqIntA3_self (a b c : Int) : Ev (fun k => laws_eqIntA3.f k a b c a b c) true := by
  have w1 : wrap64 1 = 1 := wrap_id (by omega) (by omega)
  have w2 : wrap64 2 = 2 := wrap_id (by omega) (by omega)
  have w3 : wrap64 3 = 3 := wrap_id (by omega) (by omega)
  refine ⟨4, fun k hk => ?_⟩
  obtain ⟨k, rfl⟩ : ∃ m, k = m + 4 := ⟨k - 4, by omega⟩
  simp [laws_eqIntA3.f, laws_eqIntA3.l0, w1, w2, w3]
/-- 1, -1 or 0 as two rows go the same way, opposite ways or neither -/
def par (a b c e f g : Int) : Int := if cr a b c e f g = (0, 0, 0) then sgn (wrap64 (a * e + b * f + c * g)) else 0
theorem l4Parallel_f (a b c d e f g h : Int) : spec_l4Parallel.f a b c d e f g h = some (par a b c e f g) := by
  simp only [spec_l4Parallel.f, l4Cross_f, Option.bind_some, l3Sign_f, wr_add_l, wr_add_r, par]
  generalize cr a b c e f g = r
  obtain ⟨r1, r2, r3⟩ := r
  by_cases h1 : r1 = 0 <;> by_cases h2 : r2 = 0 <;> by_cases h3 : r3 = 0 <;> simp [h1, h2, h3]
theorem impl_parallel_f (a b c d e f g h : Int) : impl_parallel.f a b c d e f g h = some (par a b c e f g) := by
  simp only [impl_parallel.f, impl_normal.f, crossOf_f, dot_f, Option.bind_some, sign_f, par]
  generalize cr a b c e f g = r
  obtain ⟨r1, r2, r3⟩ := r
  by_cases h1 : r1 = 0 <;> by_cases h2 : r2 = 0 <;> by_cases h3 : r3 = 0 <;> simp [h1, h2, h3]
def parV (a b c d e f g h : Int) : Int := if plOk a b c d = true ∧ plOk e f g h = true then par a b c e f g else 0
theorem spec_Parallel_ev (a b c d e f g h : Int) : Ev (fun k => spec_Parallel.f k a b c d e f g h) (parV a b c d e f g h) := by
  obtain ⟨K, hh⟩ := Ev.and (spec_PlaneOk_ev a b c d) (spec_PlaneOk_ev e f g h)
  refine ⟨K + 1, fun k hk => ?_⟩
  obtain ⟨k, rfl⟩ : ∃ m, k = m + 1 := ⟨k - 1, by omega⟩
  obtain ⟨h1, h2⟩ := hh (k + 1) (by omega)
  simp only [spec_Parallel.f, spec_Parallel.j0, h1, h2, l4Parallel_f, Option.bind_some, parV]
  by_cases p : plOk a b c d = true <;> by_cases q : plOk e f g h = true <;> simp [p, q]
theorem impl_Parallel_ev (a b c d e f g h : Int) : Ev (fun k => impl_Parallel.f k a b c d e f g h) (parV a b c d e f g h) := by
  obtain ⟨K, hh⟩ := Ev.and (impl_PlaneOk_ev a b c d) (impl_PlaneOk_ev e f g h)
  refine ⟨K + 1, fun k hk => ?_⟩
  obtain ⟨k, rfl⟩ : ∃ m, k = m + 1 := ⟨k - 1, by omega⟩
  obtain ⟨h1, h2⟩ := hh (k + 1) (by omega)
  simp only [impl_Parallel.f, impl_Parallel.j0, h1, h2, impl_parallel_f, Option.bind_some, parV]
  by_cases p : plOk a b c d = true <;> by_cases q : plOk e f g h = true <;> simp [p, q]
end Go.Proofs.Ytmcjkdbegkdhoaa.Pure
