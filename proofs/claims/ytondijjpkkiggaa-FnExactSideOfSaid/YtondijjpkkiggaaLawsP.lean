/- The laws over planes' tests, flips, orders, sides: their pure statements. -/
import Derived.Test.YtondijjpkkiggaaPrint0
import Derived.Test.YtondijjpkkiggaaPrint1
import Derived.Test.YtondijjpkkiggaaPrint3
import Derived.Test.YtondijjpkkiggaaPrint5
import Derived.Test.YtondijjpkkiggaaPrint6
import Derived.Test.YtondijjpkkiggaaPrint7
import Derived.Test.YtondijjpkkiggaaBase
import Derived.Test.YtondijjpkkiggaaArith
namespace Go.Proofs.Ytondijjpkkiggaa.Pure
open Go.RowKit Go.Proofs.Ytondijjpkkiggaa.Print Go.Proofs.YtondijjpkkiggaaW.PrintWords Go.Proofs.YtondijjpkkiggaaW.PrintLast Go.Proofs.YtondijjpkkiggaaW.PrintMore
set_option linter.unusedSimpArgs false
set_option linter.unusedVariables false

theorem spec_PtOk_f (a b c : Int) : spec_PtOk.f a b c = some (decide ((-1000000 ≤ a ∧ a ≤ 1000000) ∧ (-1000000 ≤ b ∧ b ≤ 1000000) ∧ (-1000000 ≤ c ∧ c ≤ 1000000))) := by
  simp only [spec_PtOk.f, l1In_f, Option.bind_some]
  by_cases ha : (-1000000 ≤ a ∧ a ≤ 1000000) <;> by_cases hb : (-1000000 ≤ b ∧ b ≤ 1000000) <;> by_cases hc : (-1000000 ≤ c ∧ c ≤ 1000000) <;> simp [ha, hb, hc]
theorem impl_PtOk_f (a b c : Int) : impl_PtOk.f a b c = some (decide ((-1000000 ≤ a ∧ a ≤ 1000000) ∧ (-1000000 ≤ b ∧ b ≤ 1000000) ∧ (-1000000 ≤ c ∧ c ≤ 1000000))) := by
  simp only [impl_PtOk.f, inRange_f, Option.bind_some]
  by_cases ha : (-1000000 ≤ a ∧ a ≤ 1000000) <;> by_cases hb : (-1000000 ≤ b ∧ b ≤ 1000000) <;> by_cases hc : (-1000000 ≤ c ∧ c ≤ 1000000) <;> simp [ha, hb, hc]

theorem FnExactPtOk_pure (a b c : Int) (_ : (Lit.int .i64 a).wf = true) (_ : (Lit.int .i64 b).wf = true) (_ : (Lit.int .i64 c).wf = true) : laws_FnExactPtOk.f a b c = some true := by
  simp [laws_FnExactPtOk.f, laws_toPt.f, spec_PtOk_f, impl_PtOk_f]

theorem FnExactPlaneOk_pure (a b c d : Int) (_ : (Lit.int .i64 a).wf = true) (_ : (Lit.int .i64 b).wf = true) (_ : (Lit.int .i64 c).wf = true) (_ : (Lit.int .i64 d).wf = true) : ∃ k, laws_FnExactPlaneOk.f k a b c d = some true := by
  obtain ⟨K, h⟩ := Ev.and (spec_PlaneOk_ev a b c d) (impl_PlaneOk_ev a b c d)
  obtain ⟨h1, h2⟩ := h K (Nat.le_refl _)
  exact ⟨K, by simp [laws_FnExactPlaneOk.f, laws_toPlane.f, h1, h2]⟩

theorem FnExactCmpPlane_pure (a b c d e f g h : Int) (_ : (Lit.int .i64 a).wf = true) (_ : (Lit.int .i64 b).wf = true) (_ : (Lit.int .i64 c).wf = true) (_ : (Lit.int .i64 d).wf = true)
    (_ : (Lit.int .i64 e).wf = true) (_ : (Lit.int .i64 f).wf = true) (_ : (Lit.int .i64 g).wf = true) (_ : (Lit.int .i64 h).wf = true) : ∃ k, laws_FnExactCmpPlane.f k a b c d e f g h = some true := by
  obtain ⟨K, hh⟩ := Ev.and (spec_CmpPlane_ev a b c d e f g h) (impl_CmpPlane_ev a b c d e f g h)
  obtain ⟨h1, h2⟩ := hh K (Nat.le_refl _)
  exact ⟨K, by simp [laws_FnExactCmpPlane.f, laws_toPlane.f, h1, h2]⟩

theorem spec_Flip_ev (a b c d : Int) : Ev (fun k => spec_Flip.f k a b c d) (if plOk a b c d = true then (wrap64 (-a), wrap64 (-b), wrap64 (-c), wrap64 (-d)) else (a, b, c, d)) := by
  obtain ⟨K, h⟩ := spec_PlaneOk_ev a b c d
  refine ⟨K, fun k hk => ?_⟩
  have h1 := h k hk
  simp only at h1
  simp only [spec_Flip.f, spec_l3Flip.f, h1, Option.bind_some]
  split <;> rfl
theorem impl_Flip_ev (a b c d : Int) : Ev (fun k => impl_Flip.f k a b c d) (if plOk a b c d = true then (wrap64 (-a), wrap64 (-b), wrap64 (-c), wrap64 (-d)) else (a, b, c, d)) := by
  obtain ⟨K, h⟩ := impl_PlaneOk_ev a b c d
  refine ⟨K, fun k hk => ?_⟩
  have h1 := h k hk
  simp only at h1
  simp only [impl_Flip.f, impl_flip.f, h1, Option.bind_some]
  split <;> rfl
theorem eqPlane_self (a b c d : Int) : laws_eqPlane.f a b c d a b c d = some true := by simp [laws_eqPlane.f]
theorem FnExactFlip_pure (a b c d : Int) (_ : (Lit.int .i64 a).wf = true) (_ : (Lit.int .i64 b).wf = true) (_ : (Lit.int .i64 c).wf = true) (_ : (Lit.int .i64 d).wf = true) : ∃ k, laws_FnExactFlip.f k a b c d = some true := by
  obtain ⟨K, h⟩ := Ev.and (spec_Flip_ev a b c d) (impl_Flip_ev a b c d)
  obtain ⟨h1, h2⟩ := h K (Nat.le_refl _)
  refine ⟨K, ?_⟩
  simp only [laws_FnExactFlip.f, laws_toPlane.f, h1, h2, Option.bind_some, eqPlane_self, if_true]

theorem spec_SideOf_ev (a b c d x y z : Int) : ∃ r, Ev (fun k => spec_SideOf.f k a b c d x y z) r ∧ Ev (fun k => impl_SideOf.f k a b c d x y z) r := by
  obtain ⟨K, h⟩ := Ev.and (spec_PlaneOk_ev a b c d) (impl_PlaneOk_ev a b c d)
  refine ⟨if plOk a b c d = true then if ((-1000000 ≤ x ∧ x ≤ 1000000) ∧ (-1000000 ≤ y ∧ y ≤ 1000000) ∧ (-1000000 ≤ z ∧ z ≤ 1000000)) then sgn (wrap64 (wrap64 (wrap64 (wrap64 (a * x) + wrap64 (b * y)) + wrap64 (c * z)) + d)) else 0 else 0, ⟨K + 1, fun k hk => ?_⟩, ⟨K + 1, fun k hk => ?_⟩⟩
  · obtain ⟨k, rfl⟩ : ∃ m, k = m + 1 := ⟨k - 1, by omega⟩
    obtain ⟨h1, h2⟩ := h (k + 1) (by omega)
    simp only [spec_SideOf.f, spec_SideOf.j0, h1, spec_PtOk_f, spec_l3At.f, l3Sign_f, Option.bind_some]
    by_cases p : plOk a b c d = true <;> by_cases q : ((-1000000 ≤ x ∧ x ≤ 1000000) ∧ (-1000000 ≤ y ∧ y ≤ 1000000) ∧ (-1000000 ≤ z ∧ z ≤ 1000000)) <;> simp [p, q]
  · obtain ⟨k, rfl⟩ : ∃ m, k = m + 1 := ⟨k - 1, by omega⟩
    obtain ⟨h1, h2⟩ := h (k + 1) (by omega)
    simp only [impl_SideOf.f, impl_SideOf.j0, h2, impl_PtOk_f, impl_valueAt.f, sign_f, Option.bind_some]
    by_cases p : plOk a b c d = true <;> by_cases q : ((-1000000 ≤ x ∧ x ≤ 1000000) ∧ (-1000000 ≤ y ∧ y ≤ 1000000) ∧ (-1000000 ≤ z ∧ z ≤ 1000000)) <;> simp [p, q]
theorem FnExactSideOf_pure (a b c d x y z : Int) (_ : (Lit.int .i64 a).wf = true) (_ : (Lit.int .i64 b).wf = true) (_ : (Lit.int .i64 c).wf = true) (_ : (Lit.int .i64 d).wf = true)
    (_ : (Lit.int .i64 x).wf = true) (_ : (Lit.int .i64 y).wf = true) (_ : (Lit.int .i64 z).wf = true) : ∃ k, laws_FnExactSideOf.f k a b c d x y z = some true := by
  obtain ⟨r, e1, e2⟩ := spec_SideOf_ev a b c d x y z
  obtain ⟨K, h⟩ := Ev.and e1 e2
  obtain ⟨h1, h2⟩ := h K (Nat.le_refl _)
  exact ⟨K, by simp [laws_FnExactSideOf.f, laws_toPlane.f, laws_toPt.f, h1, h2]⟩
end Go.Proofs.Ytondijjpkkiggaa.Pure
