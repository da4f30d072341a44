/- wrap64 and sums, products; order tests; lists of four numbers: no program in sight but for the words. -/
import Derived.Test.YtmcjkdbegkdhoaaPrint0
import Derived.Test.YtmcjkdbegkdhoaaPrint16
import Derived.Test.YtmcjkdbegkdhoaaPrint17
import Derived.Test.YtmcjkdbegkdhoaaPrint19
import Derived.Test.YtmcjkdbegkdhoaaPrint39
import Derived.Test.YtmcjkdbegkdhoaaBase
namespace Go.Proofs.Ytmcjkdbegkdhoaa.Pure
open Go.RowKit Go.Proofs.Ytmcjkdbegkdhoaa.Print Go.Proofs.YtmcjkdbegkdhoaaW.PrintWords Go.Proofs.YtmcjkdbegkdhoaaW.PrintLast Go.Proofs.YtmcjkdbegkdhoaaW.PrintMore
set_option linter.unusedSimpArgs false
set_option linter.unusedVariables false

theorem wr_add_l (a b : Int) : wrap64 (wrap64 a + b) = wrap64 (a + b) := by unfold wrap64; omega
theorem wr_add_r (a b : Int) : wrap64 (a + wrap64 b) = wrap64 (a + b) := by unfold wrap64; omega
theorem wr_sub_l (a b : Int) : wrap64 (wrap64 a - b) = wrap64 (a - b) := by unfold wrap64; omega
theorem wr_sub_r (a b : Int) : wrap64 (a - wrap64 b) = wrap64 (a - b) := by unfold wrap64; omega
theorem wr_neg (a : Int) : wrap64 (-wrap64 a) = wrap64 (-a) := by unfold wrap64; omega
theorem wr_wr (a : Int) : wrap64 (wrap64 a) = wrap64 a := by unfold wrap64; omega
theorem wr_form (a : Int) : ∃ q : Int, wrap64 a = a - 18446744073709551616 * q := ⟨(a + 9223372036854775808) / 18446744073709551616, by unfold wrap64; omega⟩
theorem wr_shift (a q : Int) : wrap64 (a - 18446744073709551616 * q) = wrap64 a := by unfold wrap64; omega
theorem wr_mul_l (a b : Int) : wrap64 (wrap64 a * b) = wrap64 (a * b) := by
  obtain ⟨q, h⟩ := wr_form a
  rw [h, Int.sub_mul, Int.mul_assoc, wr_shift]
theorem wr_mul_r (a b : Int) : wrap64 (a * wrap64 b) = wrap64 (a * b) := by rw [Int.mul_comm, wr_mul_l, Int.mul_comm]

theorem mul_bd {x y X Y : Int} (hx : -X ≤ x ∧ x ≤ X) (hy : -Y ≤ y ∧ y ≤ Y) : -(X * Y) ≤ x * y ∧ x * y ≤ X * Y := by
  have hX : 0 ≤ X := by omega
  have hY : 0 ≤ Y := by omega
  have h1 : x.natAbs * y.natAbs ≤ X.natAbs * Y.natAbs := Nat.mul_le_mul (by omega) (by omega)
  have h2 : (x * y).natAbs = x.natAbs * y.natAbs := Int.natAbs_mul x y
  have h3 : (X * Y).natAbs = X.natAbs * Y.natAbs := Int.natAbs_mul X Y
  have h4 : 0 ≤ X * Y := Int.mul_nonneg hX hY
  omega

/-- the order of two numbers -/
def cmpI (a b : Int) : Int := if a < b then -1 else if b < a then 1 else 0
theorem compare_f (a b : Int) : cmp_Compare_int.f a b = some (cmpI a b) := by
  simp only [cmp_Compare_int.f, cmp_isNaN_int.f, Option.bind_some, bne_self_eq_false, Bool.false_eq_true, if_false, cmpI, gt_iff_lt]
  by_cases h : a < b
  · simp [h]
  · by_cases h2 : b < a <;> simp [h, h2]
theorem l3CmpInt_f (a b : Int) : spec_l3CmpInt.f a b = some (cmpI a b) := by
  simp only [spec_l3CmpInt.f, cmpI, gt_iff_lt]
  by_cases h : a < b
  · simp [h]
  · by_cases h2 : b < a <;> simp [h, h2]
theorem cmpI_zero {a b : Int} : cmpI a b = 0 ↔ a = b := by unfold cmpI; split <;> (try split) <;> omega
theorem cmpI_self (a : Int) : cmpI a a = 0 := cmpI_zero.mpr rfl
theorem cmpI_swap (a b : Int) : cmpI b a = -cmpI a b := by unfold cmpI; split <;> (try split) <;> (try split) <;> omega
def sgn (a : Int) : Int := if 0 < a then 1 else if a < 0 then -1 else 0
theorem cmpI_sgn (a : Int) : cmpI a 0 = sgn a := by unfold cmpI sgn; split <;> (try split) <;> (try split) <;> omega
theorem sign_f (a : Int) : impl_sign.f a = some (sgn a) := by simp only [impl_sign.f, compare_f, Option.bind_some, cmpI_sgn]
theorem l3Sign_f (a : Int) : spec_l3Sign.f a = some (sgn a) := by
  simp only [spec_l3Sign.f, sgn, gt_iff_lt]
  by_cases h : 0 < a
  · simp [h]
  · by_cases h2 : a < 0 <;> simp [h, h2]
/-- the first that is not 0 -/
def or4 (a b c d : Int) : Int := if a ≠ 0 then a else if b ≠ 0 then b else if c ≠ 0 then c else d

theorem or4_ev (a b c d : Int) : Ev (fun k => cmp_Or_int.f k [a, b, c, d]) (or4 a b c d) := by
  refine ⟨5, fun k hk => ?_⟩
  obtain ⟨k, rfl⟩ : ∃ m, k = m + 5 := ⟨k - 5, by omega⟩
  have w0 : wrap64 1 = 1 := wrap_id (by omega) (by omega)
  have w1 : wrap64 2 = 2 := wrap_id (by omega) (by omega)
  have w2 : wrap64 3 = 3 := wrap_id (by omega) (by omega)
  have w3 : wrap64 4 = 4 := wrap_id (by omega) (by omega)
  simp only [cmp_Or_int.f, cmp_Or_int.l0, rd, or4, List.length_cons, List.length_nil]
  by_cases ha : a = 0 <;> by_cases hb : b = 0 <;> by_cases hc : c = 0 <;> by_cases hd : d = 0 <;> simp [ha, hb, hc, hd, w0, w1, w2, w3]
def cmpPl (a b c d e f g h : Int) : Int := or4 (cmpI a e) (cmpI b f) (cmpI c g) (cmpI d h)
theorem impl_CmpPlane_ev (a b c d e f g h : Int) : Ev (fun k => impl_CmpPlane.f k a b c d e f g h) (cmpPl a b c d e f g h) := by
  obtain ⟨K, hK⟩ := or4_ev (cmpI a e) (cmpI b f) (cmpI c g) (cmpI d h)
  refine ⟨K, fun k hk => ?_⟩
  have h1 := hK k hk
  simp only at h1
  simp only [impl_CmpPlane.f, compare_f, Option.bind_some, h1, cmpPl]
theorem spec_CmpPlane_ev (a b c d e f g h : Int) : Ev (fun k => spec_CmpPlane.f k a b c d e f g h) (cmpPl a b c d e f g h) := by
  refine ⟨5, fun k hk => ?_⟩
  obtain ⟨k, rfl⟩ : ∃ m, k = m + 5 := ⟨k - 5, by omega⟩
  have w0 : wrap64 1 = 1 := wrap_id (by omega) (by omega)
  have w1 : wrap64 2 = 2 := wrap_id (by omega) (by omega)
  have w2 : wrap64 3 = 3 := wrap_id (by omega) (by omega)
  have w3 : wrap64 4 = 4 := wrap_id (by omega) (by omega)
  simp only [spec_CmpPlane.f, spec_CmpPlane.l0, rd, cmpPl, or4, List.length_cons, List.length_nil, l3CmpInt_f, Option.bind_some, ne_eq, cmpI_zero]
  by_cases ha : a = e <;> by_cases hb : b = f <;> by_cases hc : c = g <;> by_cases hd : d = h <;> simp [ha, hb, hc, hd, w0, w1, w2, w3, cmpI_self]
end Go.Proofs.Ytmcjkdbegkdhoaa.Pure
