/- Spots: right ones, their order, sides; parallel planes; the laws on these. -/
import Derived.Test.YtmcjkdbegkdhoaaPrint0
import Derived.Test.YtmcjkdbegkdhoaaPrint7
import Derived.Test.YtmcjkdbegkdhoaaPrint13
import Derived.Test.YtmcjkdbegkdhoaaPrint14
import Derived.Test.YtmcjkdbegkdhoaaPrint16
import Derived.Test.YtmcjkdbegkdhoaaPrint42
import Derived.Test.YtmcjkdbegkdhoaaPrint43
import Derived.Test.YtmcjkdbegkdhoaaPrint47
import Derived.Test.YtmcjkdbegkdhoaaBase
import Derived.Test.YtmcjkdbegkdhoaaArith
import Derived.Test.YtmcjkdbegkdhoaaDet
namespace Go.Proofs.Ytmcjkdbegkdhoaa.Pure
open Go.RowKit Go.Proofs.Ytmcjkdbegkdhoaa.Print Go.Proofs.YtmcjkdbegkdhoaaW.PrintWords Go.Proofs.YtmcjkdbegkdhoaaW.PrintLast Go.Proofs.YtmcjkdbegkdhoaaW.PrintMore
set_option linter.unusedSimpArgs false
set_option linter.unusedVariables false

/-- a spot is right -/
def SpOk (x y z w : Int) : Prop := (1 ≤ w ∧ w ≤ 1000000000) ∧ (-1000000000 ≤ x ∧ x ≤ 1000000000) ∧ (-1000000000 ≤ y ∧ y ≤ 1000000000) ∧ (-1000000000 ≤ z ∧ z ≤ 1000000000) ∧ Nat.gcd (Nat.gcd x.natAbs y.natAbs) (Nat.gcd z.natAbs w.natAbs) = 1
instance (a b c d : Int) : Decidable (SpOk a b c d) := by unfold SpOk; infer_instance
def spOk (a b c d : Int) : Bool := decide (SpOk a b c d)
theorem spOk_iff {a b c d : Int} : spOk a b c d = true ↔ SpOk a b c d := by simp [spOk]
theorem spOk_in {a b c d : Int} (hr : (1 ≤ d ∧ d ≤ 1000000000) ∧ (-1000000000 ≤ a ∧ a ≤ 1000000000) ∧ (-1000000000 ≤ b ∧ b ≤ 1000000000) ∧ (-1000000000 ≤ c ∧ c ≤ 1000000000)) :
    spOk a b c d = (((Nat.gcd (Nat.gcd a.natAbs b.natAbs) (Nat.gcd c.natAbs d.natAbs) : Nat) : Int) == 1) := by
  obtain ⟨h1, h2, h3, h4⟩ := hr
  have e : ∀ n : Nat, (((n : Int) == 1) : Bool) = decide (n = 1) := by intro n; by_cases h : n = 1 <;> simp [h]; omega
  rw [e]
  simp only [spOk, SpOk, h1, h2, h3, h4, and_self, true_and, Bool.decide_and]
theorem gcd_le_big {a b : Int} {n : Nat} (h : b.natAbs ≤ n) (h2 : a.natAbs ≤ n) : Nat.gcd a.natAbs b.natAbs ≤ n := by
  by_cases z : a = 0
  · subst z; rw [Int.natAbs_zero, Nat.gcd_zero_left]; omega
  · exact Nat.le_trans (Nat.gcd_le_left _ (by omega)) (by omega)
theorem gcd3_ev {a b c d : Int} {n : Nat} (hn : n ≤ 9223372036854775807) (ha : a.natAbs ≤ n) (hb : b.natAbs ≤ n) (hc : c.natAbs ≤ n) (hd : d.natAbs ≤ n) :
    ∃ K, ∀ k, K ≤ k → spec_l3Gcd.f k a b = some ((Nat.gcd a.natAbs b.natAbs : Nat) : Int) ∧ spec_l3Gcd.f k c d = some ((Nat.gcd c.natAbs d.natAbs : Nat) : Int) ∧
      spec_l3Gcd.f k ((Nat.gcd a.natAbs b.natAbs : Nat) : Int) ((Nat.gcd c.natAbs d.natAbs : Nat) : Int) = some ((Nat.gcd (Nat.gcd a.natAbs b.natAbs) (Nat.gcd c.natAbs d.natAbs) : Nat) : Int) := by
  obtain ⟨K1, h1⟩ := l3Gcd_ev (a := a) (b := b) (by omega) (by omega) (by omega) (by omega)
  obtain ⟨K2, h2⟩ := l3Gcd_ev (a := c) (b := d) (by omega) (by omega) (by omega) (by omega)
  have la := gcd_le_big hb ha
  have lc := gcd_le_big hd hc
  obtain ⟨K3, h3⟩ := l3Gcd_ev (a := ((Nat.gcd a.natAbs b.natAbs : Nat) : Int)) (b := ((Nat.gcd c.natAbs d.natAbs : Nat) : Int)) (by omega) (by omega) (by omega) (by omega)
  refine ⟨K1 + K2 + K3, fun k hk => ⟨h1 k (by omega), h2 k (by omega), ?_⟩⟩
  have g3 := h3 k (by omega)
  simpa only [Int.natAbs_natCast] using g3

theorem spec_SpotOk_ev (a b c d : Int) : Ev (fun k => spec_SpotOk.f k a b c d) (spOk a b c d) := by
  by_cases hr : (1 ≤ d ∧ d ≤ 1000000000) ∧ (-1000000000 ≤ a ∧ a ≤ 1000000000) ∧ (-1000000000 ≤ b ∧ b ≤ 1000000000) ∧ (-1000000000 ≤ c ∧ c ≤ 1000000000)
  · have ⟨hd, ha, hb, hc⟩ := hr
    obtain ⟨K, h⟩ := gcd3_ev (a := a) (b := b) (c := c) (d := d) (n := 1000000000) (by omega) (by omega) (by omega) (by omega) (by omega)
    refine ⟨K, fun k hk => ?_⟩
    obtain ⟨g1, g2, g3⟩ := h k hk
    simp only [spec_SpotOk.f, l1In_f, Option.bind_some, ha, hb, hc, hd, and_self, decide_true, if_true, g1, g2, g3, spOk_in hr]
  · refine ⟨0, fun k _ => ?_⟩
    have hz : spOk a b c d = false := by simp only [spOk, decide_eq_false_iff_not]; intro h; exact hr ⟨h.1, h.2.1, h.2.2.1, h.2.2.2.1⟩
    rw [hz]
    simp only [spec_SpotOk.f, l1In_f, Option.bind_some]
    by_cases ca : (-1000000000 ≤ a ∧ a ≤ 1000000000) <;> by_cases cb : (-1000000000 ≤ b ∧ b ≤ 1000000000) <;> by_cases cc : (-1000000000 ≤ c ∧ c ≤ 1000000000) <;> by_cases cd : (1 ≤ d ∧ d ≤ 1000000000) <;> first | (simp [ca, cb, cc, cd]; done) | exact absurd ⟨cd, ca, cb, cc⟩ hr

theorem impl_SpotOk_ev (a b c d : Int) : Ev (fun k => impl_SpotOk.f k a b c d) (spOk a b c d) := by
  have w1 : wrap64 1 = 1 := wrap_id (by omega) (by omega)
  have w2 : wrap64 2 = 2 := wrap_id (by omega) (by omega)
  have w3 : wrap64 3 = 3 := wrap_id (by omega) (by omega)
  by_cases hr : (1 ≤ d ∧ d ≤ 1000000000) ∧ (-1000000000 ≤ a ∧ a ≤ 1000000000) ∧ (-1000000000 ≤ b ∧ b ≤ 1000000000) ∧ (-1000000000 ≤ c ∧ c ≤ 1000000000)
  · have ⟨hd, ha, hb, hc⟩ := hr
    obtain ⟨K1, h1⟩ := divisor4_ev (a := a) (b := b) (c := c) (d := d) (by omega) (by omega) (by omega) (by omega)
    refine ⟨K1 + 4, fun k hk => ?_⟩
    obtain ⟨k, rfl⟩ : ∃ m, k = m + 4 := ⟨k - 4, by omega⟩
    have g1 : impl_divisor.f k [a, b, c, d] = _ := h1 k (by omega)
    simp [impl_SpotOk.f, impl_SpotOk.l0, inRange_f, ha, hb, hc, hd, w1, w2, w3, g1, spOk_in hr]
  · refine ⟨4, fun k hk => ?_⟩
    obtain ⟨k, rfl⟩ : ∃ m, k = m + 4 := ⟨k - 4, by omega⟩
    have hz : spOk a b c d = false := by simp only [spOk, decide_eq_false_iff_not]; intro h; exact hr ⟨h.1, h.2.1, h.2.2.1, h.2.2.2.1⟩
    rw [hz]
    by_cases ca : (-1000000000 ≤ a ∧ a ≤ 1000000000) <;> by_cases cb : (-1000000000 ≤ b ∧ b ≤ 1000000000) <;> by_cases cc : (-1000000000 ≤ c ∧ c ≤ 1000000000) <;> by_cases cd : (1 ≤ d ∧ d ≤ 1000000000) <;> first | (simp [impl_SpotOk.f, impl_SpotOk.l0, inRange_f, w1, w2, w3, ca, cb, cc, cd]; done) | exact absurd ⟨cd, ca, cb, cc⟩ hr
/-- a spot, or 0, 0, 0, 1 -/
def sp1 (a b c d : Int) : Int × Int × Int × Int := if spOk a b c d = true then (a, b, c, d) else (0, 0, 0, 1)
theorem l5Right_ev (a b c d : Int) : Ev (fun k => spec_l5Right.f k a b c d) (sp1 a b c d) := by
  obtain ⟨K, h⟩ := spec_SpotOk_ev a b c d
  refine ⟨K, fun k hk => ?_⟩
  have h1 := h k hk
  simp only at h1
  simp only [spec_l5Right.f, h1, Option.bind_some, sp1]
  split <;> rfl
theorem orZero_ev (a b c d : Int) : Ev (fun k => impl_orZero.f k a b c d) (sp1 a b c d) := by
  obtain ⟨K, h⟩ := impl_SpotOk_ev a b c d
  refine ⟨K, fun k hk => ?_⟩
  have h1 := h k hk
  simp only at h1
  simp only [impl_orZero.f, h1, Option.bind_some, sp1]
  split <;> rfl
def or3 (a b c : Int) : Int := if a ≠ 0 then a else if b ≠ 0 then b else c
theorem or3_ev (a b c : Int) : Ev (fun k => cmp_Or_int.f k [a, b, c]) (or3 a b c) := by
  refine ⟨4, fun k hk => ?_⟩
  obtain ⟨k, rfl⟩ : ∃ m, k = m + 4 := ⟨k - 4, by omega⟩
  have w0 : wrap64 1 = 1 := wrap_id (by omega) (by omega)
  have w1 : wrap64 2 = 2 := wrap_id (by omega) (by omega)
  have w2 : wrap64 3 = 3 := wrap_id (by omega) (by omega)
  simp only [cmp_Or_int.f, cmp_Or_int.l0, rd, or3, List.length_cons, List.length_nil]
  by_cases ha : a = 0 <;> by_cases hb : b = 0 <;> by_cases hc : c = 0 <;> simp [ha, hb, hc, w0, w1, w2]
def cmpSp (p q : Int × Int × Int × Int) : Int := or3 (cmpI (wrap64 (p.1 * q.2.2.2)) (wrap64 (q.1 * p.2.2.2))) (cmpI (wrap64 (p.2.1 * q.2.2.2)) (wrap64 (q.2.1 * p.2.2.2))) (cmpI (wrap64 (p.2.2.1 * q.2.2.2)) (wrap64 (q.2.2.1 * p.2.2.2)))
theorem impl_cmpSpot_ev (p q : Int × Int × Int × Int) : Ev (fun k => impl_cmpSpot.f k p.1 p.2.1 p.2.2.1 p.2.2.2 q.1 q.2.1 q.2.2.1 q.2.2.2) (cmpSp p q) := by
  obtain ⟨K, hK⟩ := or3_ev (cmpI (wrap64 (p.1 * q.2.2.2)) (wrap64 (q.1 * p.2.2.2))) (cmpI (wrap64 (p.2.1 * q.2.2.2)) (wrap64 (q.2.1 * p.2.2.2))) (cmpI (wrap64 (p.2.2.1 * q.2.2.2)) (wrap64 (q.2.2.1 * p.2.2.2)))
  refine ⟨K, fun k hk => ?_⟩
  have h1 := hK k hk
  simp only at h1
  simp only [impl_cmpSpot.f, compare_f, Option.bind_some, h1, cmpSp]
theorem spec_CmpSpot_l0 (a b c d e f : Int) : Ev (fun k => spec_CmpSpot.l0 k [a, b, c] [d, e, f] 0) (or3 (cmpI a d) (cmpI b e) (cmpI c f)) := by
  refine ⟨4, fun k hk => ?_⟩
  obtain ⟨k, rfl⟩ : ∃ m, k = m + 4 := ⟨k - 4, by omega⟩
  have w0 : wrap64 1 = 1 := wrap_id (by omega) (by omega)
  have w1 : wrap64 2 = 2 := wrap_id (by omega) (by omega)
  have w2 : wrap64 3 = 3 := wrap_id (by omega) (by omega)
  simp only [spec_CmpSpot.l0, rd, or3, List.length_cons, List.length_nil, l3CmpInt_f, Option.bind_some, ne_eq, cmpI_zero]
  by_cases ha : a = d <;> by_cases hb : b = e <;> by_cases hc : c = f <;> simp [ha, hb, hc, w0, w1, w2, cmpI_self]
theorem spec_CmpSpot_ev (a b c d e f g h : Int) : Ev (fun k => spec_CmpSpot.f k a b c d e f g h) (cmpSp (sp1 a b c d) (sp1 e f g h)) := by
  obtain ⟨K1, h1⟩ := l5Right_ev a b c d
  obtain ⟨K2, h2⟩ := l5Right_ev e f g h
  generalize sp1 a b c d = p at *
  generalize sp1 e f g h = q at *
  obtain ⟨K3, h3⟩ := spec_CmpSpot_l0 (wrap64 (p.1 * q.2.2.2)) (wrap64 (p.2.1 * q.2.2.2)) (wrap64 (p.2.2.1 * q.2.2.2)) (wrap64 (q.1 * p.2.2.2)) (wrap64 (q.2.1 * p.2.2.2)) (wrap64 (q.2.2.1 * p.2.2.2))
  refine ⟨K1 + K2 + K3, fun k hk => ?_⟩
  have g1 := h1 k (by omega)
  have g2 := h2 k (by omega)
  have g3 := h3 k (by omega)
  simp only at g1 g2 g3
  simp only [spec_CmpSpot.f, g1, g2, Option.bind_some, g3, cmpSp]
theorem impl_CmpSpot_ev (a b c d e f g h : Int) : Ev (fun k => impl_CmpSpot.f k a b c d e f g h) (cmpSp (sp1 a b c d) (sp1 e f g h)) := by
  obtain ⟨K1, h1⟩ := orZero_ev a b c d
  obtain ⟨K2, h2⟩ := orZero_ev e f g h
  generalize sp1 a b c d = p at *
  generalize sp1 e f g h = q at *
  obtain ⟨K3, h3⟩ := impl_cmpSpot_ev p q
  refine ⟨K1 + K2 + K3, fun k hk => ?_⟩
  have g1 := h1 k (by omega)
  have g2 := h2 k (by omega)
  have g3 := h3 k (by omega)
  simp only at g1 g2 g3
  simp only [impl_CmpSpot.f, g1, g2, Option.bind_some, g3]
-- sides
theorem l5Side_f (a b c d x y z w : Int) : spec_l5Side.f a b c d x y z w = some (sgn (wrap64 (a * x + b * y + c * z + d * w))) := by
  simp only [spec_l5Side.f, l3Sign_f, Option.bind_some, wr_add_l, wr_add_r]
theorem sideAt_f (a b c d x y z w : Int) : impl_sideAt.f a b c d x y z w = some (sgn (wrap64 (a * x + b * y + c * z + d * w))) := by
  simp only [impl_sideAt.f, sign_f, Option.bind_some, wr_add_l, wr_add_r]
def sideV (a b c d x y z w : Int) : Int := if plOk a b c d = true ∧ spOk x y z w = true then sgn (wrap64 (a * x + b * y + c * z + d * w)) else 0
theorem spec_SideAt_ev (a b c d x y z w : Int) : Ev (fun k => spec_SideAt.f k a b c d x y z w) (sideV a b c d x y z w) := by
  obtain ⟨K, h⟩ := Ev.and (spec_PlaneOk_ev a b c d) (spec_SpotOk_ev x y z w)
  refine ⟨K + 1, fun k hk => ?_⟩
  obtain ⟨k, rfl⟩ : ∃ m, k = m + 1 := ⟨k - 1, by omega⟩
  obtain ⟨h1, h2⟩ := h (k + 1) (by omega)
  simp only [spec_SideAt.f, spec_SideAt.j0, h1, h2, l5Side_f, Option.bind_some, sideV]
  by_cases p : plOk a b c d = true <;> by_cases q : spOk x y z w = true <;> simp [p, q]
theorem impl_SideAt_ev (a b c d x y z w : Int) : Ev (fun k => impl_SideAt.f k a b c d x y z w) (sideV a b c d x y z w) := by
  obtain ⟨K, h⟩ := Ev.and (impl_PlaneOk_ev a b c d) (impl_SpotOk_ev x y z w)
  refine ⟨K + 1, fun k hk => ?_⟩
  obtain ⟨k, rfl⟩ : ∃ m, k = m + 1 := ⟨k - 1, by omega⟩
  obtain ⟨h1, h2⟩ := h (k + 1) (by omega)
  simp only [impl_SideAt.f, impl_SideAt.j0, h1, h2, sideAt_f, Option.bind_some, sideV]
  by_cases p : plOk a b c d = true <;> by_cases q : spOk x y z w = true <;> simp [p, q]
end Go.Proofs.Ytmcjkdbegkdhoaa.Pure
