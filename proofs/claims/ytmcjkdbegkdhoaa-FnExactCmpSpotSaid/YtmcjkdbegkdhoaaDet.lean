/- Determinants: both programs reckon the same sums of products modulo 2^64; the laws on Det3 and Det4. -/
import Derived.Test.YtmcjkdbegkdhoaaPrint0
import Derived.Test.YtmcjkdbegkdhoaaPrint26
import Derived.Test.YtmcjkdbegkdhoaaPrint27
import Derived.Test.YtmcjkdbegkdhoaaPrint30
import Derived.Test.YtmcjkdbegkdhoaaPrint31
import Derived.Test.YtmcjkdbegkdhoaaPrint32
import Derived.Test.YtmcjkdbegkdhoaaPrint34
import Derived.Test.YtmcjkdbegkdhoaaPrint35
import Derived.Test.YtmcjkdbegkdhoaaPrint36
import Derived.Test.YtmcjkdbegkdhoaaPrint37
import Derived.Test.YtmcjkdbegkdhoaaBase
import Derived.Test.YtmcjkdbegkdhoaaArith
namespace Go.Proofs.Ytmcjkdbegkdhoaa.Pure
open Go.RowKit Go.Proofs.Ytmcjkdbegkdhoaa.Print Go.Proofs.YtmcjkdbegkdhoaaW.PrintWords Go.Proofs.YtmcjkdbegkdhoaaW.PrintLast Go.Proofs.YtmcjkdbegkdhoaaW.PrintMore
set_option linter.unusedSimpArgs false
set_option linter.unusedVariables false

/-- the plane, or the zero one -/
def tk (a b c d : Int) : Int × Int × Int × Int := if plOk a b c d = true then (a, b, c, d) else (0, 0, 0, 0)
theorem l4Plane_ev (a b c d : Int) : Ev (fun k => spec_l4Plane.f k a b c d) (tk a b c d) := by
  obtain ⟨K, h⟩ := spec_PlaneOk_ev a b c d
  refine ⟨K, fun k hk => ?_⟩
  have h1 := h k hk
  simp only at h1
  simp only [spec_l4Plane.f, h1, Option.bind_some, tk]
  split <;> rfl
theorem taken_ev (a b c d : Int) : Ev (fun k => impl_taken.f k a b c d) (tk a b c d) := by
  obtain ⟨K, h⟩ := impl_PlaneOk_ev a b c d
  refine ⟨K, fun k hk => ?_⟩
  have h1 := h k hk
  simp only at h1
  simp only [impl_taken.f, h1, Option.bind_some, tk]
  split <;> rfl
def d3 (a b c e f g i j l : Int) : Int := a * (f * l - g * j) + b * (g * i - e * l) + c * (e * j - f * i)
theorem l4Det3_f (a b c d e f g h i j l m : Int) : spec_l4Det3.f a b c d e f g h i j l m = some (wrap64 (d3 a b c e f g i j l)) := by
  simp only [spec_l4Det3.f, spec_l4Cross.f, Option.bind_some, d3]
  simp only [wr_add_l, wr_add_r, wr_sub_l, wr_sub_r, wr_mul_r, wr_mul_l]
theorem det3_f (a b c d e f g h i j l m : Int) : impl_det3.f a b c d e f g h i j l m = some (wrap64 (d3 a b c e f g i j l)) := by
  simp only [impl_det3.f, impl_normal.f, impl_det.f, impl_crossOf.f, impl_dot.f, Option.bind_some, d3]
  simp only [wr_add_l, wr_add_r, wr_sub_l, wr_sub_r, wr_mul_r, wr_mul_l]
def P4 := Int × Int × Int × Int
def D3 (p q r : Int × Int × Int × Int) : Int := d3 p.1 p.2.1 p.2.2.1 q.1 q.2.1 q.2.2.1 r.1 r.2.1 r.2.2.1
def D4 (p q r s : Int × Int × Int × Int) : Int := s.2.2.2 * D3 p q r - r.2.2.2 * D3 p q s + q.2.2.2 * D3 p r s - p.2.2.2 * D3 q r s
theorem spec_Det3_ev (a b c d e f g h i j l m : Int) : Ev (fun k => spec_Det3.f k a b c d e f g h i j l m) (wrap64 (D3 (tk a b c d) (tk e f g h) (tk i j l m))) := by
  obtain ⟨K1, h1⟩ := l4Plane_ev a b c d
  obtain ⟨K2, h2⟩ := l4Plane_ev e f g h
  obtain ⟨K3, h3⟩ := l4Plane_ev i j l m
  refine ⟨K1 + K2 + K3, fun k hk => ?_⟩
  have g1 := h1 k (by omega)
  have g2 := h2 k (by omega)
  have g3 := h3 k (by omega)
  simp only at g1 g2 g3
  simp only [spec_Det3.f, g1, g2, g3, Option.bind_some, l4Det3_f, D3]
theorem impl_Det3_ev (a b c d e f g h i j l m : Int) : Ev (fun k => impl_Det3.f k a b c d e f g h i j l m) (wrap64 (D3 (tk a b c d) (tk e f g h) (tk i j l m))) := by
  obtain ⟨K1, h1⟩ := taken_ev a b c d
  obtain ⟨K2, h2⟩ := taken_ev e f g h
  obtain ⟨K3, h3⟩ := taken_ev i j l m
  refine ⟨K1 + K2 + K3, fun k hk => ?_⟩
  have g1 := h1 k (by omega)
  have g2 := h2 k (by omega)
  have g3 := h3 k (by omega)
  simp only at g1 g2 g3
  simp only [impl_Det3.f, g1, g2, g3, Option.bind_some, det3_f, D3]
theorem l4Det4_f (p q r s : Int × Int × Int × Int) : spec_l4Det4.f p.1 p.2.1 p.2.2.1 p.2.2.2 q.1 q.2.1 q.2.2.1 q.2.2.2 r.1 r.2.1 r.2.2.1 r.2.2.2 s.1 s.2.1 s.2.2.1 s.2.2.2 = some (wrap64 (D4 p q r s)) := by
  simp only [spec_l4Det4.f, l4Det3_f, Option.bind_some, D4, D3]
  simp only [wr_add_l, wr_add_r, wr_sub_l, wr_sub_r, wr_mul_r, wr_mul_l]
theorem det4_f (p q r s : Int × Int × Int × Int) : impl_det4.f p.1 p.2.1 p.2.2.1 p.2.2.2 q.1 q.2.1 q.2.2.1 q.2.2.2 r.1 r.2.1 r.2.2.1 r.2.2.2 s.1 s.2.1 s.2.2.1 s.2.2.2 = some (wrap64 (D4 p q r s)) := by
  simp only [impl_det4.f, det3_f, Option.bind_some, D4, D3]
  simp only [wr_add_l, wr_add_r, wr_sub_l, wr_sub_r, wr_mul_r, wr_mul_l]
  congr 2
  generalize d3 _ _ _ _ _ _ _ _ _ = x1
  generalize d3 _ _ _ _ _ _ _ _ _ = x2
  generalize d3 _ _ _ _ _ _ _ _ _ = x3
  generalize d3 _ _ _ _ _ _ _ _ _ = x4
  rw [Int.neg_mul]
  omega
theorem spec_Det4_ev (a b c d e f g h i j l m u v w x : Int) : Ev (fun k => spec_Det4.f k a b c d e f g h i j l m u v w x) (wrap64 (D4 (tk a b c d) (tk e f g h) (tk i j l m) (tk u v w x))) := by
  obtain ⟨K1, h1⟩ := l4Plane_ev a b c d
  obtain ⟨K2, h2⟩ := l4Plane_ev e f g h
  obtain ⟨K3, h3⟩ := l4Plane_ev i j l m
  obtain ⟨K4, h4⟩ := l4Plane_ev u v w x
  refine ⟨K1 + K2 + K3 + K4, fun k hk => ?_⟩
  have g1 := h1 k (by omega)
  have g2 := h2 k (by omega)
  have g3 := h3 k (by omega)
  have g4 := h4 k (by omega)
  simp only at g1 g2 g3 g4
  simp only [spec_Det4.f, g1, g2, g3, g4, Option.bind_some, l4Det4_f]
theorem impl_Det4_ev (a b c d e f g h i j l m u v w x : Int) : Ev (fun k => impl_Det4.f k a b c d e f g h i j l m u v w x) (wrap64 (D4 (tk a b c d) (tk e f g h) (tk i j l m) (tk u v w x))) := by
  obtain ⟨K1, h1⟩ := taken_ev a b c d
  obtain ⟨K2, h2⟩ := taken_ev e f g h
  obtain ⟨K3, h3⟩ := taken_ev i j l m
  obtain ⟨K4, h4⟩ := taken_ev u v w x
  refine ⟨K1 + K2 + K3 + K4, fun k hk => ?_⟩
  have g1 := h1 k (by omega)
  have g2 := h2 k (by omega)
  have g3 := h3 k (by omega)
  have g4 := h4 k (by omega)
  simp only at g1 g2 g3 g4
  simp only [impl_Det4.f, g1, g2, g3, g4, Option.bind_some, det4_f]
end Go.Proofs.Ytmcjkdbegkdhoaa.Pure
