/- The law FnExactNeeded, plain: no program in sight but for the printed functions. -/
import Derived.Test.YtndedincanmaeaaPrint0
import Derived.Test.YtndedincanmaeaaPrint3
import Derived.Test.YtndedincanmaeaaPrint4
import Derived.Test.YtndedincanmaeaaPrint5
import Derived.Test.YtndedincanmaeaaPrint6
import Derived.Test.YtndedincanmaeaaPrint7
import Derived.Test.YtndedincanmaeaaPrint8
import Derived.Test.YtndedincanmaeaaPrint9
import Derived.Test.YtndedincanmaeaaPrint10
import Derived.Test.YtndedincanmaeaaPrint11
import Derived.Test.YtndedincanmaeaaPrint12
import Derived.Test.YtndedincanmaeaaPrint13
import Derived.Test.YtndedincanmaeaaPrint14
import Derived.Test.YtndedincanmaeaaPrint15
import Derived.Test.YtndedincanmaeaaPrint16
import Derived.Test.YtndedincanmaeaaPrint17
import Derived.Test.YtndedincanmaeaaPrint18
import Derived.Test.YtndedincanmaeaaPrint19
import Derived.Test.YtndedincanmaeaaPrint23
import Derived.Test.YtndedincanmaeaaPrint37
import Derived.Test.YtndedincanmaeaaPrint38
import Derived.Test.YtndedincanmaeaaPrint39
import Derived.Test.YtndedincanmaeaaPrint40
namespace Go.Proofs.Ytndedincanmaeaa.Pure
open Go.RowKit Go.Proofs.Ytndedincanmaeaa.Print Go.Proofs.YtndedincanmaeaaW.PrintWords Go.Proofs.YtndedincanmaeaaW.PrintLast Go.Proofs.YtndedincanmaeaaW.PrintMore
set_option linter.unusedSimpArgs false
set_option linter.unusedVariables false
theorem wrap_id {x : Int} (h0 : -9223372036854775808 ≤ x) (h1 : x ≤ 9223372036854775807) : wrap64 x = x := by
  unfold wrap64; omega
theorem Ev.now' {α : Type} {g : Nat → Option α} {r : α} (h : ∀ k, g k = some r) : Ev g r := ⟨0, fun k _ => h k⟩
theorem Ev.of_bind {α β : Type} {g : Nat → Option α} {f : Nat → α → Option β} {a : α} {r : β} (h : Ev g a) (k : Ev (fun n => f n a) r) : Ev (fun n => (g n).bind (f n)) r := Ev.bind h k
theorem Ev.and {α β : Type} {g : Nat → Option α} {f : Nat → Option β} {a : α} {b : β} (h : Ev g a) (k : Ev f b) : ∃ K, ∀ n, K ≤ n → g n = some a ∧ f n = some b := by
  obtain ⟨K1, h1⟩ := h
  obtain ⟨K2, h2⟩ := k
  exact ⟨K1 + K2, fun n hn => ⟨h1 n (by omega), h2 n (by omega)⟩⟩
theorem l3Abs_f {a : Int} (h : -9223372036854775807 ≤ a) (h1 : a ≤ 9223372036854775807) : spec_l3Abs.f a = some (a.natAbs : Int) := by
  unfold spec_l3Abs.f
  by_cases c : a < 0
  · rw [if_pos c, wrap_id (by omega) (by omega)]; congr 1; omega
  · rw [if_neg c]; congr 1; omega
theorem l3Gcd_l0 : ∀ (b a k : Nat), b < k → spec_l3Gcd.l0 k (a : Int) (b : Int) = some ((Nat.gcd a b : Nat) : Int) := by
  intro b
  induction b using Nat.strongRecOn with
  | _ b ih =>
    intro a k hk
    obtain ⟨k, rfl⟩ : ∃ m, k = m + 1 := ⟨k - 1, by omega⟩
    unfold spec_l3Gcd.l0
    by_cases c : b = 0
    · subst c; rw [if_neg (by omega)]; simp
    · rw [if_pos (by omega), if_neg (by omega), show Int.tmod (a : Int) (b : Int) = ((a % b : Nat) : Int) from rfl]
      have hlt : a % b < b := Nat.mod_lt _ (by omega)
      rw [ih (a % b) hlt b k (by omega)]
      congr 2
      rw [Nat.gcd_comm a b, Nat.gcd_rec b a]
      exact Nat.gcd_comm _ _
theorem l3Gcd_ev {a b : Int} (h : -9223372036854775807 ≤ a) (h1 : a ≤ 9223372036854775807) (h2 : -9223372036854775807 ≤ b) (h3 : b ≤ 9223372036854775807) :
    Ev (fun k => spec_l3Gcd.f k a b) ((Nat.gcd a.natAbs b.natAbs : Nat) : Int) := by
  refine ⟨b.natAbs + 1, fun k hk => ?_⟩
  simp only [spec_l3Gcd.f, l3Abs_f h h1, l3Abs_f h2 h3, Option.bind_some]
  exact l3Gcd_l0 _ _ _ (by omega)
theorem mx_abs {x : Int} (h : -9223372036854775807 ≤ x) (h1 : x ≤ 9223372036854775807) : mx x (wrap64 (-x)) = (x.natAbs : Int) := by
  rw [wrap_id (by omega) (by omega)]; unfold mx; split <;> omega
theorem divisor_l1 {xs : List Int} {len i : Int} {r : Int} : ∀ (n g : Nat), Ev (fun k => impl_divisor.l0 k ((Nat.gcd g n : Nat) : Int) xs len (wrap64 (i + 1))) r → Ev (fun k => impl_divisor.l1 k (g : Int) (n : Int) xs len i) r := by
  intro n
  induction n using Nat.strongRecOn with
  | _ n ih =>
    intro g h
    by_cases c : n = 0
    · subst c
      refine Ev.step (fun k => ?_) h
      simp [impl_divisor.l1]
    · refine Ev.step (f := fun k => impl_divisor.l1 k (n : Int) ((g % n : Nat) : Int) xs len i) (fun k => ?_) (ih (g % n) (Nat.mod_lt _ (by omega)) n ?_)
      · simp only [impl_divisor.l1]; rw [if_neg (by omega)]; rfl
      · have e : Nat.gcd n (g % n) = Nat.gcd g n := by rw [Nat.gcd_comm g n, Nat.gcd_rec n g]; exact Nat.gcd_comm _ _
        rw [e]; exact h
theorem divisor_l0 {xs : List Int} {len i : Int} {r : Int} {g : Nat} (h0 : 0 ≤ i) (h1 : i < len) (h2 : i < (xs.length : Int)) (b0 : -9223372036854775807 ≤ rd xs i) (b1 : rd xs i ≤ 9223372036854775807)
    (h : Ev (fun k => impl_divisor.l0 k ((Nat.gcd g (rd xs i).natAbs : Nat) : Int) xs len (wrap64 (i + 1))) r) : Ev (fun k => impl_divisor.l0 k (g : Int) xs len i) r := by
  refine Ev.step (f := fun k => impl_divisor.l1 k (g : Int) ((rd xs i).natAbs : Int) xs len i) (fun k => ?_) (divisor_l1 _ _ h)
  simp only [impl_divisor.l0]; rw [if_pos h1, if_pos h0, if_pos h2, mx_abs b0 b1]
theorem divisor4_ev {a b c d : Int} (ha : -9223372036854775807 ≤ a ∧ a ≤ 9223372036854775807) (hb : -9223372036854775807 ≤ b ∧ b ≤ 9223372036854775807) (hc : -9223372036854775807 ≤ c ∧ c ≤ 9223372036854775807) (hd : -9223372036854775807 ≤ d ∧ d ≤ 9223372036854775807) :
    Ev (fun k => impl_divisor.f k [a, b, c, d]) ((Nat.gcd (Nat.gcd a.natAbs b.natAbs) (Nat.gcd c.natAbs d.natAbs) : Nat) : Int) := by
  have e : Nat.gcd (Nat.gcd a.natAbs b.natAbs) (Nat.gcd c.natAbs d.natAbs) = Nat.gcd (Nat.gcd (Nat.gcd (Nat.gcd 0 a.natAbs) b.natAbs) c.natAbs) d.natAbs := by
    rw [Nat.gcd_zero_left, Nat.gcd_assoc (Nat.gcd a.natAbs b.natAbs)]
  rw [e]
  refine Ev.congr (f := fun k => impl_divisor.l0 k ((0 : Nat) : Int) [a, b, c, d] 4 0) (fun k => rfl) ?_
  refine divisor_l0 (by omega) (by omega) (by simp) (by simpa [rd] using ha.1) (by simpa [rd] using ha.2) ?_
  rw [show wrap64 (0 + 1) = 1 from wrap_id (by omega) (by omega)]
  refine divisor_l0 (by omega) (by omega) (by simp) (by simpa [rd] using hb.1) (by simpa [rd] using hb.2) ?_
  rw [show wrap64 (1 + 1) = 2 from wrap_id (by omega) (by omega)]
  refine divisor_l0 (by omega) (by omega) (by simp) (by simpa [rd] using hc.1) (by simpa [rd] using hc.2) ?_
  rw [show wrap64 (2 + 1) = 3 from wrap_id (by omega) (by omega)]
  refine divisor_l0 (by omega) (by omega) (by simp) (by simpa [rd] using hd.1) (by simpa [rd] using hd.2) ?_
  rw [show wrap64 (3 + 1) = 4 from wrap_id (by omega) (by omega)]
  refine ⟨1, fun k hk => ?_⟩
  obtain ⟨k, rfl⟩ : ∃ m, k = m + 1 := ⟨k - 1, by omega⟩
  simp [impl_divisor.l0, rd]
def PlOk (a b c d : Int) : Prop := (-500 ≤ a ∧ a ≤ 500) ∧ (-500 ≤ b ∧ b ≤ 500) ∧ (-500 ≤ c ∧ c ≤ 500) ∧ (-500 ≤ d ∧ d ≤ 500) ∧ (a ≠ 0 ∨ b ≠ 0 ∨ c ≠ 0) ∧ Nat.gcd (Nat.gcd a.natAbs b.natAbs) (Nat.gcd c.natAbs d.natAbs) = 1
instance (a b c d : Int) : Decidable (PlOk a b c d) := by unfold PlOk; infer_instance
def plOk (a b c d : Int) : Bool := decide (PlOk a b c d)
theorem plOk_iff {a b c d : Int} : plOk a b c d = true ↔ PlOk a b c d := by simp [plOk]
theorem l1In_f (a b c : Int) : spec_l1In.f a b c = some (decide (b ≤ a ∧ a ≤ c)) := by
  unfold spec_l1In.f
  split
  · rename_i h; exact congrArg some (decide_eq_decide.mpr (by omega))
  · rename_i h; exact congrArg some (decide_eq_false (by omega)).symm
theorem inRange_f (a b c : Int) : impl_inRange.f a b c = some (decide (b ≤ a ∧ a ≤ c)) := by
  unfold impl_inRange.f
  split
  · rename_i h; exact congrArg some (decide_eq_decide.mpr (by omega))
  · rename_i h; exact congrArg some (decide_eq_false (by omega)).symm
theorem plOk_in {a b c d : Int} (hr : (-500 ≤ a ∧ a ≤ 500) ∧ (-500 ≤ b ∧ b ≤ 500) ∧ (-500 ≤ c ∧ c ≤ 500) ∧ (-500 ≤ d ∧ d ≤ 500)) :
    plOk a b c d = (decide (a ≠ 0 ∨ b ≠ 0 ∨ c ≠ 0) && (((Nat.gcd (Nat.gcd a.natAbs b.natAbs) (Nat.gcd c.natAbs d.natAbs) : Nat) : Int) == 1)) := by
  obtain ⟨h1, h2, h3, h4⟩ := hr
  have e : ∀ n : Nat, (((n : Int) == 1) : Bool) = decide (n = 1) := by intro n; by_cases h : n = 1 <;> simp [h]; omega
  rw [e]
  simp only [plOk, PlOk, h1, h2, h3, h4, and_self, true_and, Bool.decide_and]
theorem spec_PlaneOk_ev (a b c d : Int) : Ev (fun k => spec_PlaneOk.f k a b c d) (plOk a b c d) := by
  by_cases hr : (-500 ≤ a ∧ a ≤ 500) ∧ (-500 ≤ b ∧ b ≤ 500) ∧ (-500 ≤ c ∧ c ≤ 500) ∧ (-500 ≤ d ∧ d ≤ 500)
  · have ⟨ha, hb, hc, hd⟩ := hr
    obtain ⟨K1, h1⟩ := l3Gcd_ev (a := a) (b := b) (by omega) (by omega) (by omega) (by omega)
    obtain ⟨K2, h2⟩ := l3Gcd_ev (a := c) (b := d) (by omega) (by omega) (by omega) (by omega)
    have la : Nat.gcd a.natAbs b.natAbs ≤ 500 := by
      by_cases z : a = 0
      · subst z; rw [Int.natAbs_zero, Nat.gcd_zero_left]; omega
      · exact Nat.le_trans (Nat.gcd_le_left _ (by omega)) (by omega)
    have lc : Nat.gcd c.natAbs d.natAbs ≤ 500 := by
      by_cases z : c = 0
      · subst z; rw [Int.natAbs_zero, Nat.gcd_zero_left]; omega
      · exact Nat.le_trans (Nat.gcd_le_left _ (by omega)) (by omega)
    obtain ⟨K3, h3⟩ := l3Gcd_ev (a := ((Nat.gcd a.natAbs b.natAbs : Nat) : Int)) (b := ((Nat.gcd c.natAbs d.natAbs : Nat) : Int)) (by omega) (by omega) (by omega) (by omega)
    refine ⟨K1 + K2 + K3, fun k hk => ?_⟩
    have g1 : spec_l3Gcd.f k a b = _ := h1 k (by omega)
    have g2 : spec_l3Gcd.f k c d = _ := h2 k (by omega)
    have g3 : spec_l3Gcd.f k ((Nat.gcd a.natAbs b.natAbs : Nat) : Int) ((Nat.gcd c.natAbs d.natAbs : Nat) : Int) = _ := h3 k (by omega)
    simp only [Int.natAbs_natCast] at g3
    simp only [spec_PlaneOk.f, spec_l3In.f, l1In_f, Option.bind_some, ha, hb, hc, hd, and_self, decide_true, if_true, g1, g2, g3, plOk_in hr]
    by_cases za : a = 0 <;> by_cases zb : b = 0 <;> by_cases zc : c = 0 <;> simp [za, zb, zc]
  · refine ⟨0, fun k _ => ?_⟩
    have hz : plOk a b c d = false := by simp only [plOk, decide_eq_false_iff_not]; intro h; exact hr ⟨h.1, h.2.1, h.2.2.1, h.2.2.2.1⟩
    rw [hz]
    simp only [spec_PlaneOk.f, spec_l3In.f, l1In_f, Option.bind_some]
    by_cases ca : (-500 ≤ a ∧ a ≤ 500) <;> by_cases cb : (-500 ≤ b ∧ b ≤ 500) <;> by_cases cc : (-500 ≤ c ∧ c ≤ 500) <;> by_cases cd : (-500 ≤ d ∧ d ≤ 500) <;> first | (simp [ca, cb, cc, cd]; done) | exact absurd ⟨ca, cb, cc, cd⟩ hr
theorem impl_PlaneOk_ev (a b c d : Int) : Ev (fun k => impl_PlaneOk.f k a b c d) (plOk a b c d) := by
  by_cases hr : (-500 ≤ a ∧ a ≤ 500) ∧ (-500 ≤ b ∧ b ≤ 500) ∧ (-500 ≤ c ∧ c ≤ 500) ∧ (-500 ≤ d ∧ d ≤ 500)
  · have ⟨ha, hb, hc, hd⟩ := hr
    obtain ⟨K1, h1⟩ := divisor4_ev (a := a) (b := b) (c := c) (d := d) (by omega) (by omega) (by omega) (by omega)
    refine ⟨K1 + 1, fun k hk => ?_⟩
    obtain ⟨k, rfl⟩ : ∃ m, k = m + 1 := ⟨k - 1, by omega⟩
    have g1 : impl_divisor.f k [a, b, c, d] = _ := h1 k (by omega)
    simp only [impl_PlaneOk.f, impl_PlaneOk.j0, impl_isCoef.f, inRange_f, Option.bind_some, ha, hb, hc, hd, and_self, decide_true, if_true, Bool.not_true, Bool.false_eq_true, if_false, g1, plOk_in hr]
    by_cases za : a = 0 <;> by_cases zb : b = 0 <;> by_cases zc : c = 0 <;> simp [za, zb, zc]
  · refine ⟨1, fun k hk => ?_⟩
    obtain ⟨k, rfl⟩ : ∃ m, k = m + 1 := ⟨k - 1, by omega⟩
    have hz : plOk a b c d = false := by simp only [plOk, decide_eq_false_iff_not]; intro h; exact hr ⟨h.1, h.2.1, h.2.2.1, h.2.2.2.1⟩
    rw [hz]
    simp only [impl_PlaneOk.f, impl_PlaneOk.j0, impl_isCoef.f, inRange_f, Option.bind_some]
    by_cases ca : (-500 ≤ a ∧ a ≤ 500) <;> by_cases cb : (-500 ≤ b ∧ b ≤ 500) <;> by_cases cc : (-500 ≤ c ∧ c ≤ 500) <;> by_cases cd : (-500 ≤ d ∧ d ≤ 500) <;> first | (simp [ca, cb, cc, cd]; done) | exact absurd ⟨ca, cb, cc, cd⟩ hr
theorem wr_add_l (a b : Int) : wrap64 (wrap64 a + b) = wrap64 (a + b) := by unfold wrap64; omega
theorem wr_add_r (a b : Int) : wrap64 (a + wrap64 b) = wrap64 (a + b) := by unfold wrap64; omega
theorem wr_sub_l (a b : Int) : wrap64 (wrap64 a - b) = wrap64 (a - b) := by unfold wrap64; omega
theorem wr_sub_r (a b : Int) : wrap64 (a - wrap64 b) = wrap64 (a - b) := by unfold wrap64; omega
theorem wr_form (a : Int) : ∃ q : Int, wrap64 a = a - 18446744073709551616 * q := ⟨(a + 9223372036854775808) / 18446744073709551616, by unfold wrap64; omega⟩
theorem wr_shift (a q : Int) : wrap64 (a - 18446744073709551616 * q) = wrap64 a := by unfold wrap64; omega
theorem wr_mul_l (a b : Int) : wrap64 (wrap64 a * b) = wrap64 (a * b) := by
  obtain ⟨q, h⟩ := wr_form a
  rw [h, Int.sub_mul, Int.mul_assoc, wr_shift]
theorem wr_mul_r (a b : Int) : wrap64 (a * wrap64 b) = wrap64 (a * b) := by rw [Int.mul_comm, wr_mul_l, Int.mul_comm]
theorem mul_bd {x y X Y : Int} (hx : -X ≤ x ∧ x ≤ X) (hy : -Y ≤ y ∧ y ≤ Y) : -(X * Y) ≤ x * y ∧ x * y ≤ X * Y := by
  have hX : 0 ≤ X := by omega
  have hY : 0 ≤ Y := by omega
  have h1 : x.natAbs * y.natAbs ≤ X.natAbs * Y.natAbs := Nat.mul_le_mul (by omega) (by omega)
  have h2 : (x * y).natAbs = x.natAbs * y.natAbs := Int.natAbs_mul x y
  have h3 : (X * Y).natAbs = X.natAbs * Y.natAbs := Int.natAbs_mul X Y
  have h4 : 0 ≤ X * Y := Int.mul_nonneg hX hY
  omega
def cmpI (a b : Int) : Int := if a < b then -1 else if b < a then 1 else 0
theorem compare_f (a b : Int) : cmp_Compare_int.f a b = some (cmpI a b) := by
  simp only [cmp_Compare_int.f, cmp_isNaN_int.f, Option.bind_some, bne_self_eq_false, Bool.false_eq_true, if_false, cmpI, gt_iff_lt]
  by_cases h : a < b
  · simp [h]
  · by_cases h2 : b < a <;> simp [h, h2]
def sgn (a : Int) : Int := if 0 < a then 1 else if a < 0 then -1 else 0
theorem cmpI_sgn (a : Int) : cmpI a 0 = sgn a := by unfold cmpI sgn; split <;> (try split) <;> (try split) <;> omega
theorem sign_f (a : Int) : impl_sign.f a = some (sgn a) := by simp only [impl_sign.f, compare_f, Option.bind_some, cmpI_sgn]
theorem l3Sign_f (a : Int) : spec_l3Sign.f a = some (sgn a) := by
  simp only [spec_l3Sign.f, sgn, gt_iff_lt]
  by_cases h : 0 < a
  · simp [h]
  · by_cases h2 : a < 0 <;> simp [h, h2]
theorem eqPlane_self (a b c d : Int) : laws_eqPlane.f a b c d a b c d = some true := by simp [laws_eqPlane.f]
def d3 (a b c e f g i j l : Int) : Int := a * (f * l - g * j) + b * (g * i - e * l) + c * (e * j - f * i)
theorem l4Det3_f (a b c d e f g h i j l m : Int) : spec_l4Det3.f a b c d e f g h i j l m = some (wrap64 (d3 a b c e f g i j l)) := by
  simp only [spec_l4Det3.f, spec_l4Cross.f, Option.bind_some, d3]
  simp only [wr_add_l, wr_add_r, wr_sub_l, wr_sub_r, wr_mul_r, wr_mul_l]
theorem det3_f (a b c d e f g h i j l m : Int) : impl_det3.f a b c d e f g h i j l m = some (wrap64 (d3 a b c e f g i j l)) := by
  simp only [impl_det3.f, impl_normal.f, impl_det.f, impl_crossOf.f, impl_dot.f, Option.bind_some, d3]
  simp only [wr_add_l, wr_add_r, wr_sub_l, wr_sub_r, wr_mul_r, wr_mul_l]
def cr (a b c e f g : Int) : Int × Int × Int := (wrap64 (b * g - c * f), wrap64 (c * e - a * g), wrap64 (a * f - b * e))
theorem l4Cross_f (a b c d e f g h : Int) : spec_l4Cross.f a b c d e f g h = some (cr a b c e f g) := by
  simp only [spec_l4Cross.f, cr, wr_sub_l, wr_sub_r]
theorem crossOf_f (a b c e f g : Int) : impl_crossOf.f a b c e f g = some (cr a b c e f g) := by
  simp only [impl_crossOf.f, cr, wr_sub_l, wr_sub_r]
theorem dot_f (a b c e f g : Int) : impl_dot.f a b c e f g = some (wrap64 (a * e + b * f + c * g)) := by
  simp only [impl_dot.f, wr_add_l, wr_add_r]
def par (a b c e f g : Int) : Int := if cr a b c e f g = (0, 0, 0) then sgn (wrap64 (a * e + b * f + c * g)) else 0
theorem l4Parallel_f (a b c d e f g h : Int) : spec_l4Parallel.f a b c d e f g h = some (par a b c e f g) := by
  simp only [spec_l4Parallel.f, l4Cross_f, Option.bind_some, l3Sign_f, wr_add_l, wr_add_r, par]
  generalize cr a b c e f g = r
  obtain ⟨r1, r2, r3⟩ := r
  by_cases h1 : r1 = 0 <;> by_cases h2 : r2 = 0 <;> by_cases h3 : r3 = 0 <;> simp [h1, h2, h3]
theorem impl_parallel_f (a b c d e f g h : Int) : impl_parallel.f a b c d e f g h = some (par a b c e f g) := by
  simp only [impl_parallel.f, impl_normal.f, crossOf_f, dot_f, Option.bind_some, sign_f, par]
  generalize cr a b c e f g = r
  obtain ⟨r1, r2, r3⟩ := r
  by_cases h1 : r1 = 0 <;> by_cases h2 : r2 = 0 <;> by_cases h3 : r3 = 0 <;> simp [h1, h2, h3]
theorem det_f (a b c e f g i j l : Int) : impl_det.f a b c e f g i j l = some (wrap64 (d3 a b c e f g i j l)) := by
  simp only [impl_det.f, impl_crossOf.f, impl_dot.f, Option.bind_some, d3]
  simp only [wr_add_l, wr_add_r, wr_sub_l, wr_sub_r, wr_mul_r, wr_mul_l]
theorem d3_bd {a b c e f g i j l : Int} (ha : -500 ≤ a ∧ a ≤ 500) (hb : -500 ≤ b ∧ b ≤ 500) (hc : -500 ≤ c ∧ c ≤ 500) (he : -500 ≤ e ∧ e ≤ 500) (hf : -500 ≤ f ∧ f ≤ 500) (hg : -500 ≤ g ∧ g ≤ 500)
    (hi : -500 ≤ i ∧ i ≤ 500) (hj : -500 ≤ j ∧ j ≤ 500) (hl : -500 ≤ l ∧ l ≤ 500) : -750000000 ≤ d3 a b c e f g i j l ∧ d3 a b c e f g i j l ≤ 750000000 := by
  have m1 := mul_bd hf hl
  have m2 := mul_bd hg hj
  have m3 := mul_bd hg hi
  have m4 := mul_bd he hl
  have m5 := mul_bd he hj
  have m6 := mul_bd hf hi
  have n1 := mul_bd (x := a) (y := f * l - g * j) (X := 500) (Y := 500000) ha (by omega)
  have n2 := mul_bd (x := b) (y := g * i - e * l) (X := 500) (Y := 500000) hb (by omega)
  have n3 := mul_bd (x := c) (y := e * j - f * i) (X := 500) (Y := 500000) hc (by omega)
  unfold d3
  omega
theorem neg_bd {a : Int} (ha : -500 ≤ a ∧ a ≤ 500) : -500 ≤ wrap64 (-a) ∧ wrap64 (-a) ≤ 500 := by rw [wrap_id (by omega) (by omega)]; omega
theorem set_take {α : Type} (v : α) : ∀ (acc : List α) (j : Nat), j < acc.length → (acc.set j v).take (j + 1) = acc.take j ++ [v]
  | [], j, h => by simp at h
  | x :: xs, 0, _ => by simp
  | x :: xs, j + 1, h => by
    rw [List.set_cons_succ, List.take_succ_cons, set_take v xs j (by simpa using h), List.take_succ_cons, List.cons_append]
theorem eqIntS_l0 (l : List Int) (hl : l.length ≤ 1048576) : ∀ (d j k : Nat), l.length - j = d → j ≤ l.length → d < k → laws_eqIntS.l0 k l l (j : Int) = some true := by
  intro d
  induction d with
  | zero =>
    intro j k hd hj hk
    obtain ⟨k, rfl⟩ : ∃ m, k = m + 1 := ⟨k - 1, by omega⟩
    unfold laws_eqIntS.l0
    rw [if_neg (by omega)]
  | succ d ih =>
    intro j k hd hj hk
    obtain ⟨k, rfl⟩ : ∃ m, k = m + 1 := ⟨k - 1, by omega⟩
    unfold laws_eqIntS.l0
    rw [if_pos (by omega), if_pos (by omega), if_pos (by omega), if_pos rfl, wrap_id (by omega) (by omega)]
    rw [show ((j : Int) + 1) = ((j + 1 : Nat) : Int) from by omega]
    exact ih (j + 1) k (by omega) (by omega) (by omega)
theorem eqIntS_self {l : List Int} (hl : l.length ≤ 1048576) : Ev (fun k => laws_eqIntS.f k l l) true := by
  refine ⟨l.length + 1, fun k hk => ?_⟩
  simp only [laws_eqIntS.f, if_true]
  exact eqIntS_l0 l hl l.length 0 k (by omega) (by omega) (by omega)
abbrev V3 := Int × Int × Int
def cx (p q : V3) : V3 := (p.2.1 * q.2.2 - p.2.2 * q.2.1, p.2.2 * q.1 - p.1 * q.2.2, p.1 * q.2.1 - p.2.1 * q.1)
def dt (p q r : V3) : Int := p.1 * (q.2.1 * r.2.2 - q.2.2 * r.2.1) + p.2.1 * (q.2.2 * r.1 - q.1 * r.2.2) + p.2.2 * (q.1 * r.2.1 - q.2.1 * r.1)
def z3 : V3 := (0, 0, 0)
theorem cx_zero {p q : V3} : cx p q = z3 ↔ p.2.1 * q.2.2 = p.2.2 * q.2.1 ∧ p.2.2 * q.1 = p.1 * q.2.2 ∧ p.1 * q.2.1 = p.2.1 * q.1 := by
  simp only [cx, z3, Prod.mk.injEq]; omega
theorem Ev.succ {α : Type} {f g : Nat → Option α} {r : α} (h : ∀ k, f (k + 1) = g k) (hg : Ev g r) : Ev f r := by
  obtain ⟨K, h'⟩ := hg
  refine ⟨K + 1, fun k hk => ?_⟩
  obtain ⟨k, rfl⟩ : ∃ m, k = m + 1 := ⟨k - 1, by omega⟩
  show f (k + 1) = some r
  rw [h]
  exact h' k (by omega)
def v3 (p : S23) : V3 := (p.f0, p.f1, p.f2)
def Bd (p : S23) : Prop := (-500 ≤ p.f0 ∧ p.f0 ≤ 500) ∧ (-500 ≤ p.f1 ∧ p.f1 ≤ 500) ∧ (-500 ≤ p.f2 ∧ p.f2 ≤ 500)
theorem rd38 {L : List S23} {c : Nat} (h : c < L.length) : rd_T23 L (c : Int) = L[c] := by simp [rd_T23, List.getD_eq_getElem?_getD, h]
theorem cr_cx {a b c e f g : Int} (ha : -500 ≤ a ∧ a ≤ 500) (hb : -500 ≤ b ∧ b ≤ 500) (hc : -500 ≤ c ∧ c ≤ 500) (he : -500 ≤ e ∧ e ≤ 500) (hf : -500 ≤ f ∧ f ≤ 500) (hg : -500 ≤ g ∧ g ≤ 500) : cr a b c e f g = cx (a, b, c) (e, f, g) := by
  have m1 := mul_bd hb hg; have m2 := mul_bd hc hf; have m3 := mul_bd hc he; have m4 := mul_bd ha hg; have m5 := mul_bd ha hf; have m6 := mul_bd hb he
  simp only [cr, cx]
  rw [wrap_id (by omega) (by omega), wrap_id (by omega) (by omega), wrap_id (by omega) (by omega)]
theorem d3_dt {a b c e f g i j l : Int} : d3 a b c e f g i j l = dt (a, b, c) (e, f, g) (i, j, l) := rfl
theorem l4Cross_v {p q : S23} (hp : Bd p) (hq : Bd q) : spec_l4Cross.f p.f0 p.f1 p.f2 p.f3 q.f0 q.f1 q.f2 q.f3 = some (cx (v3 p) (v3 q)) := by
  rw [l4Cross_f, cr_cx hp.1 hp.2.1 hp.2.2 hq.1 hq.2.1 hq.2.2]; rfl
theorem l4Det3_v {p q r : S23} (hp : Bd p) (hq : Bd q) (hr : Bd r) : spec_l4Det3.f p.f0 p.f1 p.f2 p.f3 q.f0 q.f1 q.f2 q.f3 r.f0 r.f1 r.f2 r.f3 = some (dt (v3 p) (v3 q) (v3 r)) := by
  have := d3_bd hp.1 hp.2.1 hp.2.2 hq.1 hq.2.1 hq.2.2 hr.1 hr.2.1 hr.2.2
  rw [l4Det3_f, wrap_id (by omega) (by omega), d3_dt]; rfl
theorem wr_nat {α : Type} {L : List α} {c : Nat} (h : c < L.length) (hl : L.length ≤ 1048576) : wrap64 ((c : Int) + 1) = ((c + 1 : Nat) : Int) := by rw [wrap_id (by omega) (by omega)]; omega
def okp (p : S23) : Bool := plOk p.f0 p.f1 p.f2 p.f3
def B3 (v : V3) : Prop := (-500 ≤ v.1 ∧ v.1 ≤ 500) ∧ (-500 ≤ v.2.1 ∧ v.2.1 ≤ 500) ∧ (-500 ≤ v.2.2 ∧ v.2.2 ≤ 500)
theorem crossOf_v {p q : V3} (hp : B3 p) (hq : B3 q) : impl_crossOf.f p.1 p.2.1 p.2.2 q.1 q.2.1 q.2.2 = some (cx p q) := by
  rw [crossOf_f, cr_cx hp.1 hp.2.1 hp.2.2 hq.1 hq.2.1 hq.2.2]
theorem det_v {p q r : V3} (hp : B3 p) (hq : B3 q) (hr : B3 r) : impl_det.f p.1 p.2.1 p.2.2 q.1 q.2.1 q.2.2 r.1 r.2.1 r.2.2 = some (dt p q r) := by
  have := d3_bd hp.1 hp.2.1 hp.2.2 hq.1 hq.2.1 hq.2.2 hr.1 hr.2.1 hr.2.2
  rw [det_f, wrap_id (by omega) (by omega), d3_dt]
def cv (p : S31) : S23 := ⟨p.f0, p.f1, p.f2, p.f3⟩
theorem rd36 {L : List S31} {c : Nat} (h : c < L.length) : rd_T31 L (c : Int) = L[c] := by simp [rd_T31, List.getD_eq_getElem?_getD, h]
theorem toPlaneS_l0 (l : List S31) (hl : l.length ≤ 1048576) : ∀ (d j k : Nat) (acc : List S23), l.length - j = d → j ≤ l.length → acc.length = l.length → acc.take j = (l.map cv).take j → d < k → laws_toPlaneS.l0 k l acc (j : Int) = some (l.map cv) := by
  intro d
  induction d with
  | zero =>
    intro j k acc hd hj ha ht hk
    obtain ⟨k, rfl⟩ : ∃ m, k = m + 1 := ⟨k - 1, by omega⟩
    unfold laws_toPlaneS.l0
    rw [if_neg (by omega)]
    have e : j = l.length := by omega
    subst e
    rw [← ha, List.take_length, ha, show l.length = (l.map cv).length from by simp, List.take_length] at ht
    rw [ht]
  | succ d ih =>
    intro j k acc hd hj ha ht hk
    obtain ⟨k, rfl⟩ : ∃ m, k = m + 1 := ⟨k - 1, by omega⟩
    have hj' : j < l.length := by omega
    unfold laws_toPlaneS.l0
    rw [if_pos (by omega), if_pos (by omega), rd36 hj']
    simp only [laws_toPlane.f, Option.bind_some]
    rw [if_pos (by omega), wrap_id (by omega) (by omega)]
    rw [show ((j : Int) + 1) = ((j + 1 : Nat) : Int) from by omega]
    refine ih (j + 1) k _ (by omega) (by omega) (by simpa using ha) ?_ (by omega)
    rw [show (l.map cv).take (j + 1) = (l.map cv).take j ++ [cv l[j]] from by rw [List.take_succ_eq_append_getElem (by simpa using hj'), List.getElem_map], ← ht, show (j : Int).toNat = j from by omega]
    exact set_take _ _ _ (by omega)
theorem toPlaneS_ev {l : List S31} (hl : l.length ≤ 1048576) : Ev (fun k => laws_toPlaneS.f k l) (l.map cv) := by
  refine ⟨l.length + 1, fun k hk => ?_⟩
  simp only [laws_toPlaneS.f]
  rw [if_pos (by omega), if_pos (by omega)]
  exact toPlaneS_l0 l hl l.length 0 k _ (by omega) (by omega) (by simp) (by simp) (by omega)
theorem eqPlaneS_l0 (l : List S23) (hl : l.length ≤ 1048576) : ∀ (d j k : Nat), l.length - j = d → j ≤ l.length → d < k → laws_eqPlaneS.l0 k l l (j : Int) = some true := by
  intro d
  induction d with
  | zero =>
    intro j k hd hj hk
    obtain ⟨k, rfl⟩ : ∃ m, k = m + 1 := ⟨k - 1, by omega⟩
    unfold laws_eqPlaneS.l0
    rw [if_neg (by omega)]
  | succ d ih =>
    intro j k hd hj hk
    obtain ⟨k, rfl⟩ : ∃ m, k = m + 1 := ⟨k - 1, by omega⟩
    unfold laws_eqPlaneS.l0
    rw [if_pos (by omega), if_pos (by omega), if_pos (by omega), eqPlane_self, Option.bind_some, if_pos rfl, wrap_id (by omega) (by omega)]
    exact ih (j + 1) k (by omega) (by omega) (by omega)
theorem eqPlaneS_self {l : List S23} (hl : l.length ≤ 1048576) : Ev (fun k => laws_eqPlaneS.f k l l) true := by
  refine ⟨l.length + 1, fun k hk => ?_⟩
  show laws_eqPlaneS.f k l l = _
  unfold laws_eqPlaneS.f
  rw [if_pos rfl]
  exact eqPlaneS_l0 l hl l.length 0 k rfl (by omega) (by omega)
theorem szPlaneS_f {l : List S31} {n : Int} (hl : l.length ≤ 9223372036854775807) (h0 : 0 ≤ n) (h1 : n ≤ 1048576) : laws_szPlaneS.f l n = some (if (l.length : Int) ≤ n then n - l.length else -1) := by
  unfold laws_szPlaneS.f
  rw [wrap_id (by omega) (by omega)]
  by_cases h : (l.length : Int) ≤ n
  · rw [if_neg (by omega), if_pos h]
  · rw [if_pos (by omega), if_neg h]
def ip (p q : V3) : Int := p.1 * q.1 + p.2.1 * q.2.1 + p.2.2 * q.2.2
def ab (a : Int) : Int := (a.natAbs : Int)
theorem ab_mul (a b : Int) : ab (a * b) = ab a * ab b := by simp only [ab, Int.natAbs_mul, Int.natCast_mul]
theorem sg_pos {A B z S : Int} (hS : 0 < S) (hz : 0 < z) (h : A * z = B * S) : 0 < A ↔ 0 < B := by
  have k2 : ∀ {x y : Int}, 0 < y → x ≤ 0 → x * y ≤ 0 := fun {x y} hy hx => by
    have := Int.mul_nonneg (show 0 ≤ -x by omega) (show 0 ≤ y by omega)
    rw [Int.neg_mul] at this; omega
  constructor
  · intro ha
    have h1 := Int.mul_pos ha hz
    rw [h] at h1
    by_cases hb : 0 < B
    · exact hb
    · have := k2 hS (show B ≤ 0 by omega); omega
  · intro hb
    have h1 := Int.mul_pos hb hS
    rw [← h] at h1
    by_cases ha : 0 < A
    · exact ha
    · have := k2 hz (show A ≤ 0 by omega); omega
def Up3 (x y z d e f : Int) : Prop := ((0 < x ∧ 0 < y ∧ 0 < z) ∨ (x < 0 ∧ y < 0 ∧ z < 0)) ∧ ab x * d + ab y * e + ab z * f ≤ 0
theorem core3 {X Y S x y z d e f : Int} (hx : X * z = x * S) (hy : Y * z = y * S) (h0 : 0 ≤ S) (hz : S = 0 → z = 0) (ha : x ≠ 0 ∨ y ≠ 0 ∨ z ≠ 0) : Up3 X Y S d e f ↔ Up3 x y z d e f := by
  unfold Up3
  by_cases hS : S = 0
  · have := hz hS
    constructor <;> (intro h; omega)
  · have hS : 0 < S := by omega
    have hz0 : z ≠ 0 := by
      intro h; subst h
      have e1 : x * S = 0 := by rw [← hx]; simp
      have e2 : y * S = 0 := by rw [← hy]; simp
      have := (Int.mul_eq_zero.mp e1).resolve_right (by omega)
      have := (Int.mul_eq_zero.mp e2).resolve_right (by omega)
      omega
    have hs : (X * d + Y * e + S * f) * z = (x * d + y * e + z * f) * S := by
      have : (X * d + Y * e + S * f) * z = d * (X * z) + e * (Y * z) + f * (S * z) := by grind
      rw [this, hx, hy]; grind
    have eX : (0 < X ∧ 0 < Y ∧ 0 < S) → ab X * d + ab Y * e + ab S * f = X * d + Y * e + S * f := by
      rintro ⟨h1, h2, h3⟩
      simp only [ab]
      rw [show ((X.natAbs : Int)) = X by omega, show ((Y.natAbs : Int)) = Y by omega, show ((S.natAbs : Int)) = S by omega]
    by_cases hp : 0 < z
    · have a1 := sg_pos hS hp hx
      have a2 := sg_pos hS hp hy
      have a3 := sg_pos hS hp hs
      have ex : (0 < x ∧ 0 < y ∧ 0 < z) → ab x * d + ab y * e + ab z * f = x * d + y * e + z * f := by
        rintro ⟨h1, h2, h3⟩
        simp only [ab]
        rw [show ((x.natAbs : Int)) = x by omega, show ((y.natAbs : Int)) = y by omega, show ((z.natAbs : Int)) = z by omega]
      constructor
      · rintro ⟨h | h, h4⟩
        · have p : 0 < x ∧ 0 < y ∧ 0 < z := ⟨a1.mp h.1, a2.mp h.2.1, hp⟩
          refine ⟨.inl p, ?_⟩
          rw [eX h] at h4
          rw [ex p]
          have : ¬ 0 < x * d + y * e + z * f := fun q => absurd (a3.mpr q) (by omega)
          omega
        · omega
      · rintro ⟨h | h, h4⟩
        · have p : 0 < X ∧ 0 < Y ∧ 0 < S := ⟨a1.mpr h.1, a2.mpr h.2.1, hS⟩
          refine ⟨.inl p, ?_⟩
          rw [ex h] at h4
          rw [eX p]
          have : ¬ 0 < X * d + Y * e + S * f := fun q => absurd (a3.mp q) (by omega)
          omega
        · omega
    · have hn : 0 < -z := by omega
      have neg : ∀ {u v : Int}, u * z = v * S → u * -z = -v * S := fun {u v} h => by rw [Int.mul_neg, Int.neg_mul, h]
      have a1 := sg_pos hS hn (neg hx)
      have a2 := sg_pos hS hn (neg hy)
      have a3 := sg_pos hS hn (neg hs)
      have ex : (x < 0 ∧ y < 0 ∧ z < 0) → ab x * d + ab y * e + ab z * f = -(x * d + y * e + z * f) := by
        rintro ⟨h1, h2, h3⟩
        simp only [ab]
        rw [show ((x.natAbs : Int)) = -x by omega, show ((y.natAbs : Int)) = -y by omega, show ((z.natAbs : Int)) = -z by omega, Int.neg_mul, Int.neg_mul, Int.neg_mul]
        omega
      constructor
      · rintro ⟨h | h, h4⟩
        · have q1 := a1.mp h.1
          have q2 := a2.mp h.2.1
          have p : x < 0 ∧ y < 0 ∧ z < 0 := ⟨by omega, by omega, by omega⟩
          refine ⟨.inr p, ?_⟩
          rw [eX h] at h4
          rw [ex p]
          have : ¬ 0 < -(x * d + y * e + z * f) := fun q => absurd (a3.mpr q) (by omega)
          omega
        · omega
      · rintro ⟨h | h, h4⟩
        · omega
        · have p : 0 < X ∧ 0 < Y ∧ 0 < S := ⟨a1.mpr (by omega), a2.mpr (by omega), hS⟩
          refine ⟨.inl p, ?_⟩
          rw [ex h] at h4
          rw [eX p]
          have : ¬ 0 < X * d + Y * e + S * f := fun q => absurd (a3.mp q) (by omega)
          omega
theorem ip_nn (z : V3) : 0 ≤ ip z z := by
  have sq : ∀ a : Int, 0 ≤ a * a := fun a => by
    by_cases h : 0 ≤ a
    · exact Int.mul_nonneg h h
    · have := Int.mul_nonneg (show 0 ≤ -a by omega) (show 0 ≤ -a by omega)
      rw [Int.neg_mul_neg] at this; exact this
  have h1 := sq z.1; have h2 := sq z.2.1; have h3 := sq z.2.2
  simp only [ip]; omega
theorem ip_zero {z : V3} (h : ip z z = 0) : z.1 = 0 ∧ z.2.1 = 0 ∧ z.2.2 = 0 := by
  have sq : ∀ a : Int, 0 ≤ a * a := fun a => by
    by_cases h : 0 ≤ a
    · exact Int.mul_nonneg h h
    · have := Int.mul_nonneg (show 0 ≤ -a by omega) (show 0 ≤ -a by omega)
      rw [Int.neg_mul_neg] at this; exact this
  have h1 := sq z.1; have h2 := sq z.2.1; have h3 := sq z.2.2
  simp only [ip] at h
  refine ⟨?_, ?_, ?_⟩
  · exact (Int.mul_eq_zero.mp (show _ * _ = 0 by omega)).elim id id
  · exact (Int.mul_eq_zero.mp (show _ * _ = 0 by omega)).elim id id
  · exact (Int.mul_eq_zero.mp (show _ * _ = 0 by omega)).elim id id
theorem along {x z : V3} (h : cx x z = z3) : ip x z * z.1 = x.1 * ip z z ∧ ip x z * z.2.1 = x.2.1 * ip z z ∧ ip x z * z.2.2 = x.2.2 * ip z z := by
  obtain ⟨h1, h2, h3⟩ := cx_zero.mp h
  simp only [ip]
  refine ⟨?_, ?_, ?_⟩ <;> grind
theorem cx_cx {p q r : V3} (h : dt p q r = 0) : cx (cx q r) (cx p q) = z3 ∧ cx (cx r p) (cx p q) = z3 := by
  have e1 : (cx (cx q r) (cx p q)) = (q.1 * -dt p q r, q.2.1 * -dt p q r, q.2.2 * -dt p q r) := by
    simp only [cx, dt, Prod.mk.injEq]; refine ⟨?_, ?_, ?_⟩ <;> grind
  have e2 : (cx (cx r p) (cx p q)) = (p.1 * dt p q r, p.2.1 * dt p q r, p.2.2 * dt p q r) := by
    simp only [cx, dt, Prod.mk.injEq]; refine ⟨?_, ?_, ?_⟩ <;> grind
  rw [e1, e2, h]; simp [z3]
theorem core2 {a b c e f g i j d h : Int} (h1 : b * g = c * f) (h2 : c * e = a * g) (h3 : a * f = b * e) (hn : (i = a ∧ j = e) ∨ (i = b ∧ j = f) ∨ (i = c ∧ j = g)) (hi : i ≠ 0) :
    d * ab j + h * ab i ≤ 0 ↔ (ab e + ab f + ab g) * d + (ab a + ab b + ab c) * h ≤ 0 := by
  have k : ∀ {p q r s : Int}, p * q = r * s → ab p * ab q = ab r * ab s := fun {p q r s} h => by rw [← ab_mul, ← ab_mul, h]
  have hi' : 0 < ab i := by simp only [ab]; omega
  have nn : ∀ x : Int, 0 ≤ ab x := fun x => by simp only [ab]; omega
  have na := nn a; have nb := nn b; have nc := nn c
  have hv : 0 < ab a + ab b + ab c := by rcases hn with ⟨rfl, _⟩ | ⟨rfl, _⟩ | ⟨rfl, _⟩ <;> omega
  have e1 := k h1; have e2 := k h2; have e3 := k h3
  have key : (d * ab j + h * ab i) * (ab a + ab b + ab c) = ((ab e + ab f + ab g) * d + (ab a + ab b + ab c) * h) * ab i := by
    rcases hn with ⟨rfl, rfl⟩ | ⟨rfl, rfl⟩ | ⟨rfl, rfl⟩ <;> grind
  have := sg_pos hi' hv key
  omega
abbrev PS := S23
def Bd4 (p : PS) : Prop := Bd p ∧ (-500 ≤ p.f3 ∧ p.f3 ≤ 500)
theorem okp_bd4 {p : PS} (h : okp p = true) : Bd4 p := by
  have := plOk_iff.mp h
  exact ⟨⟨this.1, this.2.1, this.2.2.1⟩, this.2.2.2.1⟩
def l1 (p : PS) : Int := ab p.f0 + ab p.f1 + ab p.f2
def c2 (p q : PS) : Bool := decide (par p.f0 p.f1 p.f2 q.f0 q.f1 q.f2 < 0 ∧ l1 q * p.f3 + l1 p * q.f3 ≤ 0)
theorem ab_bd {x : Int} (h : -500 ≤ x ∧ x ≤ 500) : 0 ≤ ab x ∧ ab x ≤ 500 := by simp only [ab]; omega
theorem l1_bd {p : PS} (h : Bd p) : 0 ≤ l1 p ∧ l1 p ≤ 1500 := by
  have h1 := ab_bd h.1; have h2 := ab_bd h.2.1; have h3 := ab_bd h.2.2
  simp only [l1]; omega
theorem l6Clash2_v {p q : PS} (hp : Bd4 p) (hq : Bd4 q) : spec_l6Clash2.f p.f0 p.f1 p.f2 p.f3 q.f0 q.f1 q.f2 q.f3 = some (c2 p q) := by
  have ap := hp.1; have aq := hq.1
  have bp := l1_bd ap; have bq := l1_bd aq
  have m1 := mul_bd (x := l1 q) (X := 1500) (y := p.f3) (Y := 500) (by omega) hp.2
  have m2 := mul_bd (x := l1 p) (X := 1500) (y := q.f3) (Y := 500) (by omega) hq.2
  have e1 : wrap64 (wrap64 (ab q.f0 + ab q.f1) + ab q.f2) = l1 q := by
    rw [wr_add_l, wrap_id (by simp only [l1] at bq; omega) (by simp only [l1] at bq; omega)]; rfl
  have e2 : wrap64 (wrap64 (ab p.f0 + ab p.f1) + ab p.f2) = l1 p := by
    rw [wr_add_l, wrap_id (by simp only [l1] at bp; omega) (by simp only [l1] at bp; omega)]; rfl
  have f : ∀ x : Int, -500 ≤ x ∧ x ≤ 500 → spec_l3Abs.f x = some (ab x) := fun x h => l3Abs_f (by omega) (by omega)
  simp only [spec_l6Clash2.f, l4Parallel_f, Option.bind_some, f _ aq.1, f _ aq.2.1, f _ aq.2.2, f _ ap.1, f _ ap.2.1, f _ ap.2.2, e1, e2, c2]
  rw [wr_add_l, wr_add_r, wrap_id (x := l1 q * p.f3 + l1 p * q.f3) (by omega) (by omega)]
  by_cases h : par p.f0 p.f1 p.f2 q.f0 q.f1 q.f2 < 0
  · rw [if_neg (by omega)]; congr 1; rw [decide_eq_decide]; exact ⟨fun g => ⟨h, g⟩, fun g => g.2⟩
  · rw [if_pos (by omega)]; congr 1; symm; rw [decide_eq_false_iff_not]; exact fun g => h g.1
theorem mx_ab {x : Int} (h : -500 ≤ x ∧ x ≤ 500) : mx x (wrap64 (-x)) = ab x := mx_abs (by omega) (by omega)
theorem clash2_ev {p q : PS} (hp : Bd4 p) (hq : Bd4 q) : Ev (fun k => impl_clash2.f k p.f0 p.f1 p.f2 p.f3 q.f0 q.f1 q.f2 q.f3) (c2 p q) := by
  refine ⟨4, fun k hk => ?_⟩
  obtain ⟨k, rfl⟩ : ∃ m, k = m + 4 := ⟨k - 4, by omega⟩
  have ap := hp.1; have aq := hq.1
  show impl_clash2.f (k + 4) p.f0 p.f1 p.f2 p.f3 q.f0 q.f1 q.f2 q.f3 = _
  simp only [impl_clash2.f, impl_parallel_f, impl_normal.f, Option.bind_some]
  by_cases h : par p.f0 p.f1 p.f2 q.f0 q.f1 q.f2 < 0
  · rw [if_neg (by omega)]
    have hc : cr p.f0 p.f1 p.f2 q.f0 q.f1 q.f2 = (0, 0, 0) := by
      by_cases c : cr p.f0 p.f1 p.f2 q.f0 q.f1 q.f2 = (0, 0, 0)
      · exact c
      · simp only [par, if_neg c] at h; omega
    have hd : ¬ (p.f0 = 0 ∧ p.f1 = 0 ∧ p.f2 = 0) := by
      rintro ⟨h1, h2, h3⟩
      rw [par, if_pos hc, h1, h2, h3, Int.zero_mul, Int.zero_mul, Int.zero_mul, show wrap64 (0 + 0 + 0) = 0 from wrap_id (by omega) (by omega), show sgn 0 = 0 from rfl] at h
      omega
    rw [cr_cx ap.1 ap.2.1 ap.2.2 aq.1 aq.2.1 aq.2.2] at hc
    obtain ⟨h1, h2, h3⟩ := cx_zero.mp hc
    simp only at h1 h2 h3
    have w1 : wrap64 (0 + 1) = 1 := wrap_id (by omega) (by omega)
    have w2 : wrap64 (1 + 1) = 2 := wrap_id (by omega) (by omega)
    have key : ∀ {i j : Int}, (i = p.f0 ∧ j = q.f0) ∨ (i = p.f1 ∧ j = q.f1) ∨ (i = p.f2 ∧ j = q.f2) → i ≠ 0 → (-500 ≤ i ∧ i ≤ 500) → (-500 ≤ j ∧ j ≤ 500) →
        some (decide (wrap64 (wrap64 (p.f3 * mx j (wrap64 (-j))) + wrap64 (q.f3 * mx i (wrap64 (-i)))) ≤ 0)) = some (c2 p q) := fun {i j} hij hi bi bj => by
      have ci := ab_bd bi; have cj := ab_bd bj
      have m1 := mul_bd (x := p.f3) (X := 500) (y := ab j) (Y := 500) hp.2 (by omega)
      have m2 := mul_bd (x := q.f3) (X := 500) (y := ab i) (Y := 500) hq.2 (by omega)
      rw [mx_ab bi, mx_ab bj, wr_add_l, wr_add_r, wrap_id (by omega) (by omega)]
      have := core2 (d := p.f3) (h := q.f3) h1 h2 h3 hij hi
      congr 1
      simp only [c2]
      rw [decide_eq_decide, this]
      simp only [l1]
      exact ⟨fun g => ⟨h, g⟩, fun g => g.2⟩
    unfold impl_clash2.l0
    rw [if_pos (by omega), if_pos rfl]
    by_cases z0 : p.f0 = 0
    · rw [if_pos z0, w1]
      unfold impl_clash2.l0
      rw [if_pos (by omega), if_neg (by omega), if_pos rfl]
      by_cases z1 : p.f1 = 0
      · rw [if_pos z1, w2]
        unfold impl_clash2.l0
        rw [if_pos (by omega), if_neg (by omega), if_neg (by omega), if_pos rfl]
        by_cases z2 : p.f2 = 0
        · exact absurd ⟨z0, z1, z2⟩ hd
        · rw [if_neg z2]; exact key (.inr (.inr ⟨rfl, rfl⟩)) z2 ap.2.2 aq.2.2
      · rw [if_neg z1]; exact key (.inr (.inl ⟨rfl, rfl⟩)) z1 ap.2.1 aq.2.1
    · rw [if_neg z0]; exact key (.inl ⟨rfl, rfl⟩) z0 ap.1 aq.1
  · rw [if_pos (by omega)]; congr 1; symm; simp only [c2]; rw [decide_eq_false_iff_not]; exact fun g => h g.1
def Up4 (x y z t d e f g : Int) : Prop := ((0 < x ∧ 0 < y ∧ 0 < z ∧ 0 < t) ∨ (x < 0 ∧ y < 0 ∧ z < 0 ∧ t < 0)) ∧ ab x * d + ab y * e + ab z * f + ab t * g ≤ 0
instance (x y z d e f : Int) : Decidable (Up3 x y z d e f) := by unfold Up3; infer_instance
instance (x y z t d e f g : Int) : Decidable (Up4 x y z t d e f g) := by unfold Up4; infer_instance
theorem sum_end {xs ds : List Int} {up dn : Bool} {s : Int} : Ev (fun k => spec_l6Sum.l0 k xs ds up dn s (xs.length : Int)) (if up = true then decide (s ≤ 0) else if dn = true then decide (s ≤ 0) else false) := by
  refine ⟨1, fun k hk => ?_⟩
  obtain ⟨k, rfl⟩ : ∃ m, k = m + 1 := ⟨k - 1, by omega⟩
  show spec_l6Sum.l0 (k + 1) xs ds up dn s (xs.length : Int) = _
  unfold spec_l6Sum.l0
  rw [if_neg (by omega)]
  cases up <;> cases dn <;> rfl
theorem sum_step {xs ds : List Int} {up dn : Bool} {s i : Int} {v : Bool} (h0 : 0 ≤ i) (hi : i < (xs.length : Int)) (hd : i < (ds.length : Int)) (b : -9223372036854775807 ≤ rd xs i ∧ rd xs i ≤ 9223372036854775807)
    (h : Ev (fun k => spec_l6Sum.l0 k xs ds (up && decide (rd xs i > 0)) (dn && decide (rd xs i < 0)) (wrap64 (s + ab (rd xs i) * rd ds i)) (wrap64 (i + 1))) v) : Ev (fun k => spec_l6Sum.l0 k xs ds up dn s i) v := by
  refine Ev.succ (g := fun k => spec_l6Sum.j1 k xs ds (up && decide (rd xs i > 0)) dn s i) (fun k => ?_) ?_
  · show spec_l6Sum.l0 (k + 1) xs ds up dn s i = _
    conv => lhs; unfold spec_l6Sum.l0
    rw [if_pos hi, if_pos h0]
    cases up <;> simp
  refine Ev.succ (g := fun k => spec_l6Sum.j2 k xs ds (up && decide (rd xs i > 0)) (dn && decide (rd xs i < 0)) s i) (fun k => ?_) ?_
  · show spec_l6Sum.j1 (k + 1) xs ds (up && decide (rd xs i > 0)) dn s i = _
    conv => lhs; unfold spec_l6Sum.j1
    rw [if_pos h0, if_pos hi]
    cases dn <;> simp
  refine Ev.succ (fun k => ?_) h
  show spec_l6Sum.j2 (k + 1) xs ds _ _ s i = _
  conv => lhs; unfold spec_l6Sum.j2
  rw [if_pos h0, if_pos hi, l3Abs_f b.1 b.2, Option.bind_some, if_pos hd, wr_add_r]; rfl
theorem l6Sum3_ev {x y z d e f : Int} (hx : -1000000000000 ≤ x ∧ x ≤ 1000000000000) (hy : -1000000000000 ≤ y ∧ y ≤ 1000000000000) (hz : -1000000000000 ≤ z ∧ z ≤ 1000000000000) (hd : -500 ≤ d ∧ d ≤ 500) (he : -500 ≤ e ∧ e ≤ 500) (hf : -500 ≤ f ∧ f ≤ 500) :
    Ev (fun k => spec_l6Sum.f k [x, y, z] [d, e, f]) (decide (Up3 x y z d e f)) := by
  have A : ∀ {u v : Int}, -1000000000000 ≤ u ∧ u ≤ 1000000000000 → -500 ≤ v ∧ v ≤ 500 → -500000000000000 ≤ ab u * v ∧ ab u * v ≤ 500000000000000 := fun {u v} hu hv => mul_bd (X := 1000000000000) (Y := 500) (by simp only [ab]; omega) hv
  have m1 := A hx hd; have m2 := A hy he; have m3 := A hz hf
  refine Ev.congr (f := fun k => spec_l6Sum.l0 k [x, y, z] [d, e, f] true true 0 0) (fun k => rfl) ?_
  refine sum_step (by omega) (by simp) (by simp) (by simp only [rd]; simp; omega) ?_
  rw [show wrap64 (0 + 1) = 1 from wrap_id (by omega) (by omega)]
  refine sum_step (by omega) (by simp) (by simp) (by simp only [rd]; simp; omega) ?_
  rw [show wrap64 (1 + 1) = 2 from wrap_id (by omega) (by omega)]
  refine sum_step (by omega) (by simp) (by simp) (by simp only [rd]; simp; omega) ?_
  rw [show wrap64 (2 + 1) = (([x, y, z] : List Int).length : Int) from wrap_id (by omega) (by omega)]
  have key := sum_end (xs := [x, y, z]) (ds := [d, e, f]) (up := decide (0 < x ∧ 0 < y ∧ 0 < z)) (dn := decide (x < 0 ∧ y < 0 ∧ z < 0)) (s := ab x * d + ab y * e + ab z * f)
  have e1 : (if decide (0 < x ∧ 0 < y ∧ 0 < z) = true then decide (ab x * d + ab y * e + ab z * f ≤ 0) else if decide (x < 0 ∧ y < 0 ∧ z < 0) = true then decide (ab x * d + ab y * e + ab z * f ≤ 0) else false) = decide (Up3 x y z d e f) := by
    unfold Up3
    by_cases p : 0 < x ∧ 0 < y ∧ 0 < z
    · simp [p]
    · by_cases q : x < 0 ∧ y < 0 ∧ z < 0 <;> simp [p, q]
  rw [e1] at key
  have r0 : rd [x, y, z] 0 = x := rfl
  have r1 : rd [x, y, z] 1 = y := rfl
  have r2 : rd [x, y, z] 2 = z := rfl
  have s0 : rd [d, e, f] 0 = d := rfl
  have s1 : rd [d, e, f] 1 = e := rfl
  have s2 : rd [d, e, f] 2 = f := rfl
  rw [r0, r1, r2, s0, s1, s2]
  simp only [wr_add_l]
  rw [wrap_id (x := 0 + ab x * d + ab y * e + ab z * f) (by omega) (by omega)]
  refine Ev.congr (fun k => ?_) key
  congr 1
  · rw [Bool.eq_iff_iff]; simp [and_assoc]
  · rw [Bool.eq_iff_iff]; simp [and_assoc]
  · omega
theorem l6Sum4_ev {x y z t d e f g : Int} (hx : -1000000000000 ≤ x ∧ x ≤ 1000000000000) (hy : -1000000000000 ≤ y ∧ y ≤ 1000000000000) (hz : -1000000000000 ≤ z ∧ z ≤ 1000000000000) (ht : -1000000000000 ≤ t ∧ t ≤ 1000000000000)
    (hd : -500 ≤ d ∧ d ≤ 500) (he : -500 ≤ e ∧ e ≤ 500) (hf : -500 ≤ f ∧ f ≤ 500) (hg : -500 ≤ g ∧ g ≤ 500) :
    Ev (fun k => spec_l6Sum.f k [x, y, z, t] [d, e, f, g]) (decide (Up4 x y z t d e f g)) := by
  have A : ∀ {u v : Int}, -1000000000000 ≤ u ∧ u ≤ 1000000000000 → -500 ≤ v ∧ v ≤ 500 → -500000000000000 ≤ ab u * v ∧ ab u * v ≤ 500000000000000 := fun {u v} hu hv => mul_bd (X := 1000000000000) (Y := 500) (by simp only [ab]; omega) hv
  have m1 := A hx hd; have m2 := A hy he; have m3 := A hz hf; have m4 := A ht hg
  refine Ev.congr (f := fun k => spec_l6Sum.l0 k [x, y, z, t] [d, e, f, g] true true 0 0) (fun k => rfl) ?_
  refine sum_step (by omega) (by simp) (by simp) (by simp only [rd]; simp; omega) ?_
  rw [show wrap64 (0 + 1) = 1 from wrap_id (by omega) (by omega)]
  refine sum_step (by omega) (by simp) (by simp) (by simp only [rd]; simp; omega) ?_
  rw [show wrap64 (1 + 1) = 2 from wrap_id (by omega) (by omega)]
  refine sum_step (by omega) (by simp) (by simp) (by simp only [rd]; simp; omega) ?_
  rw [show wrap64 (2 + 1) = 3 from wrap_id (by omega) (by omega)]
  refine sum_step (by omega) (by simp) (by simp) (by simp only [rd]; simp; omega) ?_
  rw [show wrap64 (3 + 1) = (([x, y, z, t] : List Int).length : Int) from wrap_id (by omega) (by omega)]
  have key := sum_end (xs := [x, y, z, t]) (ds := [d, e, f, g]) (up := decide (0 < x ∧ 0 < y ∧ 0 < z ∧ 0 < t)) (dn := decide (x < 0 ∧ y < 0 ∧ z < 0 ∧ t < 0)) (s := ab x * d + ab y * e + ab z * f + ab t * g)
  have e1 : (if decide (0 < x ∧ 0 < y ∧ 0 < z ∧ 0 < t) = true then decide (ab x * d + ab y * e + ab z * f + ab t * g ≤ 0) else if decide (x < 0 ∧ y < 0 ∧ z < 0 ∧ t < 0) = true then decide (ab x * d + ab y * e + ab z * f + ab t * g ≤ 0) else false) = decide (Up4 x y z t d e f g) := by
    unfold Up4
    by_cases p : 0 < x ∧ 0 < y ∧ 0 < z ∧ 0 < t
    · simp [p]
    · by_cases q : x < 0 ∧ y < 0 ∧ z < 0 ∧ t < 0 <;> simp [p, q]
  rw [e1] at key
  have r0 : rd [x, y, z, t] 0 = x := rfl
  have r1 : rd [x, y, z, t] 1 = y := rfl
  have r2 : rd [x, y, z, t] 2 = z := rfl
  have r3 : rd [x, y, z, t] 3 = t := rfl
  have s0 : rd [d, e, f, g] 0 = d := rfl
  have s1 : rd [d, e, f, g] 1 = e := rfl
  have s2 : rd [d, e, f, g] 2 = f := rfl
  have s3 : rd [d, e, f, g] 3 = g := rfl
  rw [r0, r1, r2, r3, s0, s1, s2, s3]
  simp only [wr_add_l]
  rw [wrap_id (x := 0 + ab x * d + ab y * e + ab z * f + ab t * g) (by omega) (by omega)]
  refine Ev.congr (fun k => ?_) key
  congr 1
  · rw [Bool.eq_iff_iff]; simp [and_assoc]
  · rw [Bool.eq_iff_iff]; simp [and_assoc]
  · omega
theorem weighs_end {ws ds : List Int} {one s : Int} : Ev (fun k => impl_weighs.l0 k ds one s ws (ws.length : Int) (ws.length : Int)) (decide (wrap64 (s * one) ≤ 0)) := by
  refine ⟨1, fun k hk => ?_⟩
  obtain ⟨k, rfl⟩ : ∃ m, k = m + 1 := ⟨k - 1, by omega⟩
  show impl_weighs.l0 (k + 1) ds one s ws (ws.length : Int) (ws.length : Int) = _
  unfold impl_weighs.l0
  rw [if_neg (by omega)]
theorem weighs_step {ws ds : List Int} {one s i : Int} {v : Bool} (h0 : 0 ≤ i) (hi : i < (ws.length : Int)) (hd : i < (ds.length : Int)) (h1 : one ≠ 0)
    (h : Ev (fun k => impl_weighs.l0 k ds one (wrap64 (s + rd ws i * rd ds i)) ws (ws.length : Int) (wrap64 (i + 1))) v) : Ev (fun k => impl_weighs.l0 k ds one s ws (ws.length : Int) i) (if sgn (rd ws i) = one then v else false) := by
  refine Ev.succ (g := fun k => impl_weighs.j1 k ds one s i (rd ws i) ws (ws.length : Int) i (sgn (rd ws i) != one)) (fun k => ?_) ?_
  · show impl_weighs.l0 (k + 1) ds one s ws (ws.length : Int) i = _
    conv => lhs; unfold impl_weighs.l0
    rw [if_pos hi, if_pos h0, if_pos hi, if_neg h1, sign_f, Option.bind_some]
  by_cases c : sgn (rd ws i) = one
  · rw [if_pos c]
    refine Ev.succ (fun k => ?_) h
    show impl_weighs.j1 (k + 1) ds one s i (rd ws i) ws (ws.length : Int) i (sgn (rd ws i) != one) = _
    conv => lhs; unfold impl_weighs.j1
    rw [if_neg (by simp [c]), if_pos h0, if_pos hd, wr_add_r]
  · rw [if_neg c]
    refine ⟨1, fun k hk => ?_⟩
    obtain ⟨k, rfl⟩ : ∃ m, k = m + 1 := ⟨k - 1, by omega⟩
    show impl_weighs.j1 (k + 1) ds one s i (rd ws i) ws (ws.length : Int) i (sgn (rd ws i) != one) = _
    unfold impl_weighs.j1
    rw [if_pos (by simp [c])]
theorem weighs_zero {ws ds : List Int} {s i : Int} (h0 : 0 ≤ i) (hi : i < (ws.length : Int)) : Ev (fun k => impl_weighs.l0 k ds 0 s ws (ws.length : Int) i) false := by
  refine ⟨2, fun k hk => ?_⟩
  obtain ⟨k, rfl⟩ : ∃ m, k = m + 2 := ⟨k - 2, by omega⟩
  show impl_weighs.l0 (k + 2) ds 0 s ws (ws.length : Int) i = _
  unfold impl_weighs.l0
  rw [if_pos hi, if_pos h0, if_pos hi, if_pos rfl]
  unfold impl_weighs.j1
  rw [if_pos rfl]
theorem sgn_one {a : Int} : sgn a = 1 ↔ 0 < a := by unfold sgn; split <;> (try split) <;> omega
theorem sgn_neg {a : Int} : sgn a = -1 ↔ a < 0 := by unfold sgn; split <;> (try split) <;> omega
theorem sgn_nul {a : Int} : sgn a = 0 ↔ a = 0 := by unfold sgn; split <;> (try split) <;> omega
theorem weighs3_ev {x y z d e f : Int} (hx : -1000000000000 ≤ x ∧ x ≤ 1000000000000) (hy : -1000000000000 ≤ y ∧ y ≤ 1000000000000) (hz : -1000000000000 ≤ z ∧ z ≤ 1000000000000) (hd : -500 ≤ d ∧ d ≤ 500) (he : -500 ≤ e ∧ e ≤ 500) (hf : -500 ≤ f ∧ f ≤ 500) :
    Ev (fun k => impl_weighs.f k [x, y, z] [d, e, f]) (decide (Up3 x y z d e f)) := by
  have m1 := mul_bd hx hd; have m2 := mul_bd hy he; have m3 := mul_bd hz hf
  refine Ev.congr (f := fun k => impl_weighs.l0 k [d, e, f] (sgn x) 0 [x, y, z] (([x, y, z] : List Int).length : Int) 0) (fun k => ?_) ?_
  · show impl_weighs.f k [x, y, z] [d, e, f] = _
    simp only [impl_weighs.f]
    rw [if_pos (by simp), sign_f, Option.bind_some]; rfl
  by_cases c : x = 0
  · have e0 : sgn x = 0 := sgn_nul.mpr c
    rw [e0, show decide (Up3 x y z d e f) = false from by rw [decide_eq_false_iff_not]; unfold Up3; omega]
    exact weighs_zero (by omega) (by simp)
  have h1 : sgn x ≠ 0 := fun h => c (sgn_nul.mp h)
  have r0 : rd [x, y, z] 0 = x := rfl
  have r1 : rd [x, y, z] 1 = y := rfl
  have r2 : rd [x, y, z] 2 = z := rfl
  have s0 : rd [d, e, f] 0 = d := rfl
  have s1 : rd [d, e, f] 1 = e := rfl
  have s2 : rd [d, e, f] 2 = f := rfl
  have k3 := weighs_end (ws := [x, y, z]) (ds := [d, e, f]) (one := sgn x) (s := x * d + y * e + z * f)
  have k2 := weighs_step (ws := [x, y, z]) (ds := [d, e, f]) (one := sgn x) (s := x * d + y * e) (i := 2) (by omega) (by simp) (by simp) h1 (by rw [r2, s2, wrap_id (x := x * d + y * e + z * f) (by omega) (by omega), show wrap64 (2 + 1) = (([x, y, z] : List Int).length : Int) from wrap_id (by omega) (by omega)]; exact k3)
  have k1 := weighs_step (ws := [x, y, z]) (ds := [d, e, f]) (one := sgn x) (s := x * d) (i := 1) (by omega) (by simp) (by simp) h1 (by rw [r1, s1, wrap_id (x := x * d + y * e) (by omega) (by omega), show wrap64 (1 + 1) = 2 from wrap_id (by omega) (by omega)]; exact k2)
  have k0 := weighs_step (ws := [x, y, z]) (ds := [d, e, f]) (one := sgn x) (s := 0) (i := 0) (by omega) (by simp) (by simp) h1 (by rw [r0, s0, Int.zero_add, wrap_id (x := x * d) (by omega) (by omega), show wrap64 (0 + 1) = 1 from wrap_id (by omega) (by omega)]; exact k1)
  rw [r0, r1, r2, if_pos rfl] at k0
  have fin : (if sgn y = sgn x then if sgn z = sgn x then decide (wrap64 ((x * d + y * e + z * f) * sgn x) ≤ 0) else false else false) = decide (Up3 x y z d e f) := by
    by_cases px : 0 < x
    · rw [sgn_one.mpr px]
      simp only [sgn_one]
      by_cases py : 0 < y
      · by_cases pz : 0 < z
        · rw [if_pos py, if_pos pz, Int.mul_one, wrap_id (by omega) (by omega), Bool.eq_iff_iff, decide_eq_true_iff, decide_eq_true_iff]
          unfold Up3
          simp only [ab]
          rw [show (x.natAbs : Int) = x by omega, show (y.natAbs : Int) = y by omega, show (z.natAbs : Int) = z by omega]
          exact ⟨fun h => ⟨.inl ⟨px, py, pz⟩, h⟩, fun h => h.2⟩
        · rw [if_pos py, if_neg pz]; symm; rw [decide_eq_false_iff_not]; unfold Up3; omega
      · rw [if_neg py]; symm; rw [decide_eq_false_iff_not]; unfold Up3; omega
    · have nx : x < 0 := by omega
      rw [sgn_neg.mpr nx]
      simp only [sgn_neg]
      by_cases py : y < 0
      · by_cases pz : z < 0
        · rw [if_pos py, if_pos pz, Int.mul_neg, Int.mul_one, wrap_id (by omega) (by omega), Bool.eq_iff_iff, decide_eq_true_iff, decide_eq_true_iff]
          unfold Up3
          simp only [ab]
          rw [show (x.natAbs : Int) = -x by omega, show (y.natAbs : Int) = -y by omega, show (z.natAbs : Int) = -z by omega, Int.neg_mul, Int.neg_mul, Int.neg_mul]
          exact ⟨fun h => ⟨.inr ⟨nx, py, pz⟩, by omega⟩, fun h => by omega⟩
        · rw [if_pos py, if_neg pz]; symm; rw [decide_eq_false_iff_not]; unfold Up3; omega
      · rw [if_neg py]; symm; rw [decide_eq_false_iff_not]; unfold Up3; omega
  rw [← fin]
  exact k0
theorem weighs4_ev {x y z t d e f g : Int} (hx : -1000000000000 ≤ x ∧ x ≤ 1000000000000) (hy : -1000000000000 ≤ y ∧ y ≤ 1000000000000) (hz : -1000000000000 ≤ z ∧ z ≤ 1000000000000) (ht : -1000000000000 ≤ t ∧ t ≤ 1000000000000)
    (hd : -500 ≤ d ∧ d ≤ 500) (he : -500 ≤ e ∧ e ≤ 500) (hf : -500 ≤ f ∧ f ≤ 500) (hg : -500 ≤ g ∧ g ≤ 500) :
    Ev (fun k => impl_weighs.f k [x, y, z, t] [d, e, f, g]) (decide (Up4 x y z t d e f g)) := by
  have m1 := mul_bd hx hd; have m2 := mul_bd hy he; have m3 := mul_bd hz hf; have m4 := mul_bd ht hg
  refine Ev.congr (f := fun k => impl_weighs.l0 k [d, e, f, g] (sgn x) 0 [x, y, z, t] (([x, y, z, t] : List Int).length : Int) 0) (fun k => ?_) ?_
  · show impl_weighs.f k [x, y, z, t] [d, e, f, g] = _
    simp only [impl_weighs.f]
    rw [if_pos (by simp), sign_f, Option.bind_some]; rfl
  by_cases c : x = 0
  · have e0 : sgn x = 0 := sgn_nul.mpr c
    rw [e0, show decide (Up4 x y z t d e f g) = false from by rw [decide_eq_false_iff_not]; unfold Up4; omega]
    exact weighs_zero (by omega) (by simp)
  have h1 : sgn x ≠ 0 := fun h => c (sgn_nul.mp h)
  have r0 : rd [x, y, z, t] 0 = x := rfl
  have r1 : rd [x, y, z, t] 1 = y := rfl
  have r2 : rd [x, y, z, t] 2 = z := rfl
  have r3 : rd [x, y, z, t] 3 = t := rfl
  have s0 : rd [d, e, f, g] 0 = d := rfl
  have s1 : rd [d, e, f, g] 1 = e := rfl
  have s2 : rd [d, e, f, g] 2 = f := rfl
  have s3 : rd [d, e, f, g] 3 = g := rfl
  have k4 := weighs_end (ws := [x, y, z, t]) (ds := [d, e, f, g]) (one := sgn x) (s := x * d + y * e + z * f + t * g)
  have k3 := weighs_step (ws := [x, y, z, t]) (ds := [d, e, f, g]) (one := sgn x) (s := x * d + y * e + z * f) (i := 3) (by omega) (by simp) (by simp) h1 (by rw [r3, s3, wrap_id (x := x * d + y * e + z * f + t * g) (by omega) (by omega), show wrap64 (3 + 1) = (([x, y, z, t] : List Int).length : Int) from wrap_id (by omega) (by omega)]; exact k4)
  have k2 := weighs_step (ws := [x, y, z, t]) (ds := [d, e, f, g]) (one := sgn x) (s := x * d + y * e) (i := 2) (by omega) (by simp) (by simp) h1 (by rw [r2, s2, wrap_id (x := x * d + y * e + z * f) (by omega) (by omega), show wrap64 (2 + 1) = 3 from wrap_id (by omega) (by omega)]; exact k3)
  have k1 := weighs_step (ws := [x, y, z, t]) (ds := [d, e, f, g]) (one := sgn x) (s := x * d) (i := 1) (by omega) (by simp) (by simp) h1 (by rw [r1, s1, wrap_id (x := x * d + y * e) (by omega) (by omega), show wrap64 (1 + 1) = 2 from wrap_id (by omega) (by omega)]; exact k2)
  have k0 := weighs_step (ws := [x, y, z, t]) (ds := [d, e, f, g]) (one := sgn x) (s := 0) (i := 0) (by omega) (by simp) (by simp) h1 (by rw [r0, s0, Int.zero_add, wrap_id (x := x * d) (by omega) (by omega), show wrap64 (0 + 1) = 1 from wrap_id (by omega) (by omega)]; exact k1)
  rw [r0, r1, r2, r3, if_pos rfl] at k0
  have fin : (if sgn y = sgn x then if sgn z = sgn x then if sgn t = sgn x then decide (wrap64 ((x * d + y * e + z * f + t * g) * sgn x) ≤ 0) else false else false else false) = decide (Up4 x y z t d e f g) := by
    by_cases px : 0 < x
    · rw [sgn_one.mpr px]
      simp only [sgn_one]
      by_cases py : 0 < y
      · by_cases pz : 0 < z
        · by_cases pt : 0 < t
          · rw [if_pos py, if_pos pz, if_pos pt, Int.mul_one, wrap_id (by omega) (by omega), Bool.eq_iff_iff, decide_eq_true_iff, decide_eq_true_iff]
            unfold Up4
            simp only [ab]
            rw [show (x.natAbs : Int) = x by omega, show (y.natAbs : Int) = y by omega, show (z.natAbs : Int) = z by omega, show (t.natAbs : Int) = t by omega]
            exact ⟨fun h => ⟨.inl ⟨px, py, pz, pt⟩, h⟩, fun h => h.2⟩
          · rw [if_pos py, if_pos pz, if_neg pt]; symm; rw [decide_eq_false_iff_not]; unfold Up4; omega
        · rw [if_pos py, if_neg pz]; symm; rw [decide_eq_false_iff_not]; unfold Up4; omega
      · rw [if_neg py]; symm; rw [decide_eq_false_iff_not]; unfold Up4; omega
    · have nx : x < 0 := by omega
      rw [sgn_neg.mpr nx]
      simp only [sgn_neg]
      by_cases py : y < 0
      · by_cases pz : z < 0
        · by_cases pt : t < 0
          · rw [if_pos py, if_pos pz, if_pos pt, Int.mul_neg, Int.mul_one, wrap_id (by omega) (by omega), Bool.eq_iff_iff, decide_eq_true_iff, decide_eq_true_iff]
            unfold Up4
            simp only [ab]
            rw [show (x.natAbs : Int) = -x by omega, show (y.natAbs : Int) = -y by omega, show (z.natAbs : Int) = -z by omega, show (t.natAbs : Int) = -t by omega, Int.neg_mul, Int.neg_mul, Int.neg_mul, Int.neg_mul]
            exact ⟨fun h => ⟨.inr ⟨nx, py, pz, pt⟩, by omega⟩, fun h => by omega⟩
          · rw [if_pos py, if_pos pz, if_neg pt]; symm; rw [decide_eq_false_iff_not]; unfold Up4; omega
        · rw [if_pos py, if_neg pz]; symm; rw [decide_eq_false_iff_not]; unfold Up4; omega
      · rw [if_neg py]; symm; rw [decide_eq_false_iff_not]; unfold Up4; omega
  rw [← fin]
  exact k0
def c3 (p q r : PS) : Bool := decide (dt (v3 p) (v3 q) (v3 r) = 0 ∧ Up3 (ip (cx (v3 q) (v3 r)) (cx (v3 p) (v3 q))) (ip (cx (v3 r) (v3 p)) (cx (v3 p) (v3 q))) (ip (cx (v3 p) (v3 q)) (cx (v3 p) (v3 q))) p.f3 q.f3 r.f3)
def B6 (v : V3) : Prop := (-500000 ≤ v.1 ∧ v.1 ≤ 500000) ∧ (-500000 ≤ v.2.1 ∧ v.2.1 ≤ 500000) ∧ (-500000 ≤ v.2.2 ∧ v.2.2 ≤ 500000)
theorem cx_bd {p q : PS} (hp : Bd p) (hq : Bd q) : B6 (cx (v3 p) (v3 q)) := by
  obtain ⟨a1, a2, a3⟩ := hp
  obtain ⟨b1, b2, b3⟩ := hq
  have m1 := mul_bd a2 b3; have m2 := mul_bd a3 b2; have m3 := mul_bd a3 b1; have m4 := mul_bd a1 b3; have m5 := mul_bd a1 b2; have m6 := mul_bd a2 b1
  simp only [B6, cx, v3]
  refine ⟨⟨?_, ?_⟩, ⟨?_, ?_⟩, ?_, ?_⟩ <;> omega
theorem ip_bd {u v : V3} (hu : B6 u) (hv : B6 v) : -750000000000 ≤ ip u v ∧ ip u v ≤ 750000000000 := by
  have m1 := mul_bd hu.1 hv.1; have m2 := mul_bd hu.2.1 hv.2.1; have m3 := mul_bd hu.2.2 hv.2.2
  simp only [ip]; omega
theorem dot_v {u v : V3} (hu : B6 u) (hv : B6 v) : impl_dot.f u.1 u.2.1 u.2.2 v.1 v.2.1 v.2.2 = some (ip u v) := by
  have := ip_bd hu hv
  rw [dot_f, wrap_id (by simp only [ip] at this; omega) (by simp only [ip] at this; omega)]; rfl
theorem clash3_ev {p q r : PS} (hp : Bd4 p) (hq : Bd4 q) (hr : Bd4 r) : Ev (fun k => impl_clash3.f k p.f0 p.f1 p.f2 p.f3 q.f0 q.f1 q.f2 q.f3 r.f0 r.f1 r.f2 r.f3) (c3 p q r) := by
  have hw := cx_bd hp.1 hq.1; have hx := cx_bd hq.1 hr.1; have hy := cx_bd hr.1 hp.1
  have i1 := ip_bd hx hw; have i2 := ip_bd hy hw; have i3 := ip_bd hw hw
  obtain ⟨K, hK⟩ := weighs3_ev (x := ip (cx (v3 q) (v3 r)) (cx (v3 p) (v3 q))) (y := ip (cx (v3 r) (v3 p)) (cx (v3 p) (v3 q))) (z := ip (cx (v3 p) (v3 q)) (cx (v3 p) (v3 q))) (by omega) (by omega) (by omega) hp.2 hq.2 hr.2
  refine ⟨K, fun k hk => ?_⟩
  have hK := hK k hk
  simp only at hK
  have e1 : impl_det.f p.f0 p.f1 p.f2 q.f0 q.f1 q.f2 r.f0 r.f1 r.f2 = some (dt (v3 p) (v3 q) (v3 r)) := det_v (p := v3 p) (q := v3 q) (r := v3 r) hp.1 hq.1 hr.1
  have e2 : impl_crossOf.f p.f0 p.f1 p.f2 q.f0 q.f1 q.f2 = some (cx (v3 p) (v3 q)) := crossOf_v (p := v3 p) (q := v3 q) hp.1 hq.1
  have e3 : impl_crossOf.f q.f0 q.f1 q.f2 r.f0 r.f1 r.f2 = some (cx (v3 q) (v3 r)) := crossOf_v (p := v3 q) (q := v3 r) hq.1 hr.1
  have e4 : impl_crossOf.f r.f0 r.f1 r.f2 p.f0 p.f1 p.f2 = some (cx (v3 r) (v3 p)) := crossOf_v (p := v3 r) (q := v3 p) hr.1 hp.1
  simp only [impl_clash3.f, impl_normal.f, Option.bind_some, e1, e2, e3, e4, dot_v hx hw, dot_v hy hw, dot_v hw hw, hK, c3]
  by_cases h : dt (v3 p) (v3 q) (v3 r) = 0
  · rw [if_pos h]; congr 1; rw [decide_eq_decide]; exact ⟨fun g => ⟨h, g⟩, fun g => g.2⟩
  · rw [if_neg h]; congr 1; symm; rw [decide_eq_false_iff_not]; exact fun g => h g.1
theorem c3_end {p q r : PS} (h : dt (v3 p) (v3 q) (v3 r) = 0) {i x y z : Int} (hi : (i = 0 ∧ x = (cx (v3 q) (v3 r)).1 ∧ y = (cx (v3 r) (v3 p)).1 ∧ z = (cx (v3 p) (v3 q)).1) ∨ (i = 1 ∧ x = (cx (v3 q) (v3 r)).2.1 ∧ y = (cx (v3 r) (v3 p)).2.1 ∧ z = (cx (v3 p) (v3 q)).2.1) ∨ (i = 2 ∧ x = (cx (v3 q) (v3 r)).2.2 ∧ y = (cx (v3 r) (v3 p)).2.2 ∧ z = (cx (v3 p) (v3 q)).2.2))
    (ha : x ≠ 0 ∨ y ≠ 0 ∨ z ≠ 0) : c3 p q r = decide (Up3 x y z p.f3 q.f3 r.f3) := by
  obtain ⟨g1, g2⟩ := cx_cx h
  obtain ⟨a1, a2, a3⟩ := along g1
  obtain ⟨b1, b2, b3⟩ := along g2
  have nn := ip_nn (cx (v3 p) (v3 q))
  have zz : ip (cx (v3 p) (v3 q)) (cx (v3 p) (v3 q)) = 0 → z = 0 := fun e => by
    obtain ⟨z1, z2, z3⟩ := ip_zero e
    rcases hi with ⟨_, _, _, e⟩ | ⟨_, _, _, e⟩ | ⟨_, _, _, e⟩ <;> rw [e] <;> assumption
  unfold c3
  rw [decide_eq_decide]
  have key : Up3 (ip (cx (v3 q) (v3 r)) (cx (v3 p) (v3 q))) (ip (cx (v3 r) (v3 p)) (cx (v3 p) (v3 q))) (ip (cx (v3 p) (v3 q)) (cx (v3 p) (v3 q))) p.f3 q.f3 r.f3 ↔ Up3 x y z p.f3 q.f3 r.f3 := by
    refine core3 ?_ ?_ nn zz ha
    · rcases hi with ⟨_, e1, _, e3⟩ | ⟨_, e1, _, e3⟩ | ⟨_, e1, _, e3⟩ <;> rw [e1, e3] <;> assumption
    · rcases hi with ⟨_, _, e2, e3⟩ | ⟨_, _, e2, e3⟩ | ⟨_, _, e2, e3⟩ <;> rw [e2, e3] <;> assumption
  exact ⟨fun g => key.mp g.2, fun g => ⟨h, key.mpr g⟩⟩
theorem l6Clash3_ev {p q r : PS} (hp : Bd4 p) (hq : Bd4 q) (hr : Bd4 r) : Ev (fun k => spec_l6Clash3.f k p.f0 p.f1 p.f2 p.f3 q.f0 q.f1 q.f2 q.f3 r.f0 r.f1 r.f2 r.f3) (c3 p q r) := by
  have hz := cx_bd hp.1 hq.1; have hx := cx_bd hq.1 hr.1; have hy := cx_bd hr.1 hp.1
  by_cases h : dt (v3 p) (v3 q) (v3 r) = 0
  · refine Ev.congr (f := fun k => spec_l6Clash3.l0 k 0 p.f0 p.f1 p.f2 p.f3 q.f0 q.f1 q.f2 q.f3 r.f0 r.f1 r.f2 r.f3 (cx (v3 q) (v3 r)).1 (cx (v3 q) (v3 r)).2.1 (cx (v3 q) (v3 r)).2.2 (cx (v3 r) (v3 p)).1 (cx (v3 r) (v3 p)).2.1 (cx (v3 r) (v3 p)).2.2 (cx (v3 p) (v3 q)).1 (cx (v3 p) (v3 q)).2.1 (cx (v3 p) (v3 q)).2.2) (fun k => ?_) ?_
    · show spec_l6Clash3.f k p.f0 p.f1 p.f2 p.f3 q.f0 q.f1 q.f2 q.f3 r.f0 r.f1 r.f2 r.f3 = _
      simp only [spec_l6Clash3.f, l4Det3_v hp.1 hq.1 hr.1, l4Cross_v hp.1 hq.1, l4Cross_v hq.1 hr.1, l4Cross_v hr.1 hp.1, Option.bind_some]
      rw [if_pos h]
    have en := @c3_end p q r h
    have nul : (cx (v3 p) (v3 q)).1 = 0 → (cx (v3 p) (v3 q)).2.1 = 0 → (cx (v3 p) (v3 q)).2.2 = 0 → c3 p q r = false := fun z1 z2 z3 => by
      unfold c3
      rw [decide_eq_false_iff_not]
      rintro ⟨_, g, _⟩
      have : ip (cx (v3 p) (v3 q)) (cx (v3 p) (v3 q)) = 0 := by simp only [ip, z1, z2, z3]; rfl
      omega
    have w1 : wrap64 (0 + 1) = 1 := wrap_id (by omega) (by omega)
    have w2 : wrap64 (1 + 1) = 2 := wrap_id (by omega) (by omega)
    have w3 : wrap64 (2 + 1) = 3 := wrap_id (by omega) (by omega)
    generalize cx (v3 q) (v3 r) = x at *
    generalize cx (v3 r) (v3 p) = y at *
    generalize cx (v3 p) (v3 q) = z at *
    generalize c3 p q r = R at *
    obtain ⟨x1, x2, x3⟩ := x; obtain ⟨y1, y2, y3⟩ := y; obtain ⟨z1, z2, z3⟩ := z
    simp only at en nul hx hy hz ⊢
    have s0 : ∀ k, spec_l6Clash3.l0 (k + 1) 0 p.f0 p.f1 p.f2 p.f3 q.f0 q.f1 q.f2 q.f3 r.f0 r.f1 r.f2 r.f3 x1 x2 x3 y1 y2 y3 z1 z2 z3 = spec_l6Clash3.j1 k 0 (decide (x1 ≠ 0 ∨ y1 ≠ 0 ∨ z1 ≠ 0)) p.f0 p.f1 p.f2 p.f3 q.f0 q.f1 q.f2 q.f3 r.f0 r.f1 r.f2 r.f3 x1 x2 x3 y1 y2 y3 z1 z2 z3 := fun k => by
      conv => lhs; unfold spec_l6Clash3.l0
      rw [if_pos (by omega), if_pos rfl]
      by_cases a : x1 = 0
      · rw [if_pos a]
        by_cases b : y1 = 0
        · rw [if_pos b]; congr 1; by_cases c : z1 = 0 <;> simp [a, b, c]
        · rw [if_neg b]; congr 1; simp [b]
      · rw [if_neg a]; congr 1; simp [a]
    have s1 : ∀ k, spec_l6Clash3.l0 (k + 1) 1 p.f0 p.f1 p.f2 p.f3 q.f0 q.f1 q.f2 q.f3 r.f0 r.f1 r.f2 r.f3 x1 x2 x3 y1 y2 y3 z1 z2 z3 = spec_l6Clash3.j1 k 1 (decide (x2 ≠ 0 ∨ y2 ≠ 0 ∨ z2 ≠ 0)) p.f0 p.f1 p.f2 p.f3 q.f0 q.f1 q.f2 q.f3 r.f0 r.f1 r.f2 r.f3 x1 x2 x3 y1 y2 y3 z1 z2 z3 := fun k => by
      conv => lhs; unfold spec_l6Clash3.l0
      rw [if_pos (by omega), if_neg (by omega), if_pos rfl]
      by_cases a : x2 = 0
      · rw [if_pos a]
        by_cases b : y2 = 0
        · rw [if_pos b]; congr 1; by_cases c : z2 = 0 <;> simp [a, b, c]
        · rw [if_neg b]; congr 1; simp [b]
      · rw [if_neg a]; congr 1; simp [a]
    have s2 : ∀ k, spec_l6Clash3.l0 (k + 1) 2 p.f0 p.f1 p.f2 p.f3 q.f0 q.f1 q.f2 q.f3 r.f0 r.f1 r.f2 r.f3 x1 x2 x3 y1 y2 y3 z1 z2 z3 = spec_l6Clash3.j1 k 2 (decide (x3 ≠ 0 ∨ y3 ≠ 0 ∨ z3 ≠ 0)) p.f0 p.f1 p.f2 p.f3 q.f0 q.f1 q.f2 q.f3 r.f0 r.f1 r.f2 r.f3 x1 x2 x3 y1 y2 y3 z1 z2 z3 := fun k => by
      conv => lhs; unfold spec_l6Clash3.l0
      rw [if_pos (by omega), if_neg (by omega), if_neg (by omega), if_pos rfl]
      by_cases a : x3 = 0
      · rw [if_pos a]
        by_cases b : y3 = 0
        · rw [if_pos b]; congr 1; by_cases c : z3 = 0 <;> simp [a, b, c]
        · rw [if_neg b]; congr 1; simp [b]
      · rw [if_neg a]; congr 1; simp [a]
    have sum : ∀ {a b c : Int}, -500000 ≤ a ∧ a ≤ 500000 → -500000 ≤ b ∧ b ≤ 500000 → -500000 ≤ c ∧ c ≤ 500000 → R = decide (Up3 a b c p.f3 q.f3 r.f3) → Ev (fun k => (spec_l6Sum.f k [a, b, c] [p.f3, q.f3, r.f3]).bind fun t => some t) R := fun {a b c} ha hb hc e => by
      obtain ⟨K, hK⟩ := l6Sum3_ev (x := a) (y := b) (z := c) (by omega) (by omega) (by omega) hp.2 hq.2 hr.2
      exact ⟨K, fun k hk => by have := hK k hk; simp only at this; simp only [this, Option.bind_some, e]⟩
    refine Ev.succ s0 ?_
    by_cases a0 : x1 ≠ 0 ∨ y1 ≠ 0 ∨ z1 ≠ 0
    · refine Ev.succ (fun k => ?_) (sum hx.1 hy.1 hz.1 (en (.inl ⟨rfl, rfl, rfl, rfl⟩) a0))
      conv => lhs; unfold spec_l6Clash3.j1
      rw [if_pos (by simpa using a0), if_pos rfl]
    refine Ev.succ (g := fun k => spec_l6Clash3.l0 k 1 p.f0 p.f1 p.f2 p.f3 q.f0 q.f1 q.f2 q.f3 r.f0 r.f1 r.f2 r.f3 x1 x2 x3 y1 y2 y3 z1 z2 z3) (fun k => ?_) ?_
    · conv => lhs; unfold spec_l6Clash3.j1
      rw [if_neg (by simpa using a0), w1]
    refine Ev.succ s1 ?_
    by_cases a1 : x2 ≠ 0 ∨ y2 ≠ 0 ∨ z2 ≠ 0
    · refine Ev.succ (fun k => ?_) (sum hx.2.1 hy.2.1 hz.2.1 (en (.inr (.inl ⟨rfl, rfl, rfl, rfl⟩)) a1))
      conv => lhs; unfold spec_l6Clash3.j1
      rw [if_pos (by simpa using a1), if_neg (by omega), if_pos rfl]
    refine Ev.succ (g := fun k => spec_l6Clash3.l0 k 2 p.f0 p.f1 p.f2 p.f3 q.f0 q.f1 q.f2 q.f3 r.f0 r.f1 r.f2 r.f3 x1 x2 x3 y1 y2 y3 z1 z2 z3) (fun k => ?_) ?_
    · conv => lhs; unfold spec_l6Clash3.j1
      rw [if_neg (by simpa using a1), w2]
    refine Ev.succ s2 ?_
    by_cases a2 : x3 ≠ 0 ∨ y3 ≠ 0 ∨ z3 ≠ 0
    · refine Ev.succ (fun k => ?_) (sum hx.2.2 hy.2.2 hz.2.2 (en (.inr (.inr ⟨rfl, rfl, rfl, rfl⟩)) a2))
      conv => lhs; unfold spec_l6Clash3.j1
      rw [if_pos (by simpa using a2), if_neg (by omega), if_neg (by omega), if_pos rfl]
    refine Ev.succ (g := fun k => spec_l6Clash3.l0 k 3 p.f0 p.f1 p.f2 p.f3 q.f0 q.f1 q.f2 q.f3 r.f0 r.f1 r.f2 r.f3 x1 x2 x3 y1 y2 y3 z1 z2 z3) (fun k => ?_) ?_
    · conv => lhs; unfold spec_l6Clash3.j1
      rw [if_neg (by simpa using a2), w3]
    rw [nul (by omega) (by omega) (by omega)]
    refine ⟨1, fun k hk => ?_⟩
    obtain ⟨k, rfl⟩ : ∃ m, k = m + 1 := ⟨k - 1, by omega⟩
    simp only
    unfold spec_l6Clash3.l0
    rw [if_neg (by omega)]
  · refine ⟨0, fun k hk => ?_⟩
    simp only [spec_l6Clash3.f, l4Det3_v hp.1 hq.1 hr.1, Option.bind_some]
    rw [if_neg h]; congr 1; symm; simp only [c3]; rw [decide_eq_false_iff_not]; exact fun g => h g.1
def c4 (p q r s : PS) : Bool := decide (Up4 (dt (v3 q) (v3 r) (v3 s)) (-dt (v3 p) (v3 r) (v3 s)) (dt (v3 p) (v3 q) (v3 s)) (-dt (v3 p) (v3 q) (v3 r)) p.f3 q.f3 r.f3 s.f3)
theorem dt_bd {p q r : PS} (hp : Bd p) (hq : Bd q) (hr : Bd r) : -750000000 ≤ dt (v3 p) (v3 q) (v3 r) ∧ dt (v3 p) (v3 q) (v3 r) ≤ 750000000 := by
  have := d3_bd hp.1 hp.2.1 hp.2.2 hq.1 hq.2.1 hq.2.2 hr.1 hr.2.1 hr.2.2
  rw [d3_dt] at this
  simp only [v3]; omega
theorem det3_v {p q r : PS} (hp : Bd p) (hq : Bd q) (hr : Bd r) : impl_det3.f p.f0 p.f1 p.f2 p.f3 q.f0 q.f1 q.f2 q.f3 r.f0 r.f1 r.f2 r.f3 = some (dt (v3 p) (v3 q) (v3 r)) := by
  have := d3_bd hp.1 hp.2.1 hp.2.2 hq.1 hq.2.1 hq.2.2 hr.1 hr.2.1 hr.2.2
  rw [det3_f, wrap_id (by omega) (by omega), d3_dt]; rfl
theorem clash4_ev {p q r s : PS} (hp : Bd4 p) (hq : Bd4 q) (hr : Bd4 r) (hs : Bd4 s) : Ev (fun k => impl_clash4.f k p.f0 p.f1 p.f2 p.f3 q.f0 q.f1 q.f2 q.f3 r.f0 r.f1 r.f2 r.f3 s.f0 s.f1 s.f2 s.f3) (c4 p q r s) := by
  have b1 := dt_bd hq.1 hr.1 hs.1; have b2 := dt_bd hp.1 hr.1 hs.1; have b3 := dt_bd hp.1 hq.1 hs.1; have b4 := dt_bd hp.1 hq.1 hr.1
  obtain ⟨K, hK⟩ := weighs4_ev (x := dt (v3 q) (v3 r) (v3 s)) (y := -dt (v3 p) (v3 r) (v3 s)) (z := dt (v3 p) (v3 q) (v3 s)) (t := -dt (v3 p) (v3 q) (v3 r)) (by omega) (by omega) (by omega) (by omega) hp.2 hq.2 hr.2 hs.2
  refine ⟨K, fun k hk => ?_⟩
  have hK := hK k hk
  simp only at hK
  simp only [impl_clash4.f, det3_v hq.1 hr.1 hs.1, det3_v hp.1 hr.1 hs.1, det3_v hp.1 hq.1 hs.1, det3_v hp.1 hq.1 hr.1, Option.bind_some]
  rw [wrap_id (x := -dt (v3 p) (v3 r) (v3 s)) (by omega) (by omega), wrap_id (x := -dt (v3 p) (v3 q) (v3 r)) (by omega) (by omega), hK]; rfl
theorem l6Clash4_ev {p q r s : PS} (hp : Bd4 p) (hq : Bd4 q) (hr : Bd4 r) (hs : Bd4 s) : Ev (fun k => spec_l6Clash4.f k p.f0 p.f1 p.f2 p.f3 q.f0 q.f1 q.f2 q.f3 r.f0 r.f1 r.f2 r.f3 s.f0 s.f1 s.f2 s.f3) (c4 p q r s) := by
  have b1 := dt_bd hq.1 hr.1 hs.1; have b2 := dt_bd hp.1 hr.1 hs.1; have b3 := dt_bd hp.1 hq.1 hs.1; have b4 := dt_bd hp.1 hq.1 hr.1
  obtain ⟨K, hK⟩ := l6Sum4_ev (x := dt (v3 q) (v3 r) (v3 s)) (y := -dt (v3 p) (v3 r) (v3 s)) (z := dt (v3 p) (v3 q) (v3 s)) (t := -dt (v3 p) (v3 q) (v3 r)) (by omega) (by omega) (by omega) (by omega) hp.2 hq.2 hr.2 hs.2
  refine ⟨K, fun k hk => ?_⟩
  have hK := hK k hk
  simp only at hK
  simp only [spec_l6Clash4.f, l4Det3_v hq.1 hr.1 hs.1, l4Det3_v hp.1 hr.1 hs.1, l4Det3_v hp.1 hq.1 hs.1, l4Det3_v hp.1 hq.1 hr.1, Option.bind_some]
  rw [wrap_id (x := -dt (v3 p) (v3 r) (v3 s)) (by omega) (by omega), wrap_id (x := -dt (v3 p) (v3 q) (v3 r)) (by omega) (by omega), hK]; rfl
def anyF (f : Nat → Bool) : Nat → Nat → Bool
  | 0, _ => false
  | d + 1, i => f i || anyF f d (i + 1)
theorem anyF_iff {f : Nat → Bool} : ∀ {d i : Nat}, anyF f d i = true ↔ ∃ m, i ≤ m ∧ m < i + d ∧ f m = true
  | 0, i => by simp only [anyF]; constructor <;> (intro h; first | (obtain ⟨m, h1, h2, _⟩ := h; omega) | cases h)
  | d + 1, i => by
    simp only [anyF, Bool.or_eq_true, anyF_iff (d := d)]
    constructor
    · rintro (h | ⟨m, h1, h2, h3⟩)
      · exact ⟨i, by omega, by omega, h⟩
      · exact ⟨m, by omega, by omega, h3⟩
    · rintro ⟨m, h1, h2, h3⟩
      by_cases e : m = i
      · exact .inl (e ▸ h3)
      · exact .inr ⟨m, by omega, by omega, h3⟩
theorem rdB {L : List PS} (h : ∀ p ∈ L, okp p = true) (i : Int) : Bd4 (rd_T23 L i) := by
  have z : Bd4 (z23) := ⟨⟨⟨by decide, by decide⟩, ⟨by decide, by decide⟩, by decide, by decide⟩, by decide, by decide⟩
  by_cases hi : i.toNat < L.length
  · have e : rd_T23 L i = L[i.toNat] := by simp [rd_T23, List.getD_eq_getElem?_getD, hi]
    rw [e]; exact okp_bd4 (h _ (List.getElem_mem hi))
  · have e : rd_T23 L i = z23 := by simp [rd_T23, z23, List.getD_eq_getElem?_getD, hi]
    rw [e]; exact z
theorem rd_take {L : List PS} {n i : Nat} (h : i < n) : rd_T23 (L.take n) (i : Int) = rd_T23 L (i : Int) := by
  simp [rd_T23, List.getD_eq_getElem?_getD, List.getElem?_take, h]
theorem take_ok {L : List PS} (h : ∀ p ∈ L, okp p = true) (n : Nat) : ∀ p ∈ L.take n, okp p = true := fun p hp => h p (List.mem_of_mem_take hp)
def w4 (L : List PS) (p : PS) (i j m : Nat) : Bool := c4 (rd_T23 L i) (rd_T23 L j) (rd_T23 L m) p
def w3 (L : List PS) (p : PS) (i j : Nat) : Bool := c3 (rd_T23 L i) (rd_T23 L j) p || anyF (w4 L p i j) (L.length - (j + 1)) (j + 1)
def w2 (L : List PS) (p : PS) (i : Nat) : Bool := c2 (rd_T23 L i) p || anyF (w3 L p i) (L.length - (i + 1)) (i + 1)
def wl (L : List PS) (p : PS) : Bool := anyF (w2 L p) L.length 0
theorem or_ev {f : Nat → Option Bool} {g : Nat → Option Bool} {a b : Bool} (hf : Ev f a) (hg : Ev g b) : Ev (fun k => (f k).bind fun t => if t = true then some true else g k) (a || b) := by
  refine Ev.of_bind hf ?_
  cases a
  · exact Ev.congr (fun k => by simp) hg
  · exact ⟨0, fun k _ => rfl⟩
theorem nor_ev {f : Nat → Option Bool} {g : Nat → Option Bool} {a b : Bool} (hf : Ev f a) (hg : Ev g b) : Ev (fun k => (f k).bind fun t => if t = true then some false else g k) (!a && b) := by
  refine Ev.of_bind hf ?_
  cases a
  · exact Ev.congr (fun k => by simp) hg
  · exact ⟨0, fun k _ => rfl⟩
theorem wrn {α : Type} {L : List α} {c : Nat} (h : c < L.length) (hl : L.length ≤ 2097152) : wrap64 ((c : Int) + 1) = ((c + 1 : Nat) : Int) := by rw [wrap_id (by omega) (by omega)]; omega
theorem with_l2 {L : List PS} {p : PS} (hb : ∀ i : Int, Bd4 (rd_T23 L i)) (hp : Bd4 p) (hl : L.length ≤ 2097152) {i j : Nat} {v : Bool} (hi : i < L.length) (hj : j < L.length)
    (hn : Ev (fun k => spec_l6With.l1 k L (L.length : Int) (i : Int) ((j + 1 : Nat) : Int) p.f0 p.f1 p.f2 p.f3) v) : ∀ (d m : Nat), L.length - m = d → m ≤ L.length →
    Ev (fun k => spec_l6With.l2 k L (L.length : Int) (i : Int) (j : Int) (m : Int) p.f0 p.f1 p.f2 p.f3) (anyF (w4 L p i j) d m || v) := by
  intro d
  induction d with
  | zero =>
    intro m hd hm
    have e : m = L.length := by omega
    subst e
    refine Ev.succ (fun k => ?_) hn
    show spec_l6With.l2 (k + 1) L (L.length : Int) (i : Int) (j : Int) (L.length : Int) p.f0 p.f1 p.f2 p.f3 = _
    conv => lhs; unfold spec_l6With.l2
    rw [if_neg (by omega), wrn hj hl]
  | succ d ih =>
    intro m hd hm
    have hm' : m < L.length := by omega
    have key := or_ev (l6Clash4_ev (hb i) (hb j) (hb m) hp) (ih (m + 1) (by omega) (by omega))
    simp only [anyF, Bool.or_assoc]
    refine Ev.succ (fun k => ?_) key
    show spec_l6With.l2 (k + 1) L (L.length : Int) (i : Int) (j : Int) (m : Int) p.f0 p.f1 p.f2 p.f3 = _
    conv => lhs; unfold spec_l6With.l2
    rw [if_pos (by omega), if_pos (by omega), if_pos (by omega), if_pos (by omega), if_pos (by omega), if_pos (by omega), if_pos (by omega), wrn hm' hl]
theorem with_l1 {L : List PS} {p : PS} (hb : ∀ i : Int, Bd4 (rd_T23 L i)) (hp : Bd4 p) (hl : L.length ≤ 2097152) {i : Nat} {v : Bool} (hi : i < L.length)
    (hn : Ev (fun k => spec_l6With.l0 k L (L.length : Int) ((i + 1 : Nat) : Int) p.f0 p.f1 p.f2 p.f3) v) : ∀ (d j : Nat), L.length - j = d → j ≤ L.length →
    Ev (fun k => spec_l6With.l1 k L (L.length : Int) (i : Int) (j : Int) p.f0 p.f1 p.f2 p.f3) (anyF (w3 L p i) d j || v) := by
  intro d
  induction d with
  | zero =>
    intro j hd hj
    have e : j = L.length := by omega
    subst e
    refine Ev.succ (fun k => ?_) hn
    show spec_l6With.l1 (k + 1) L (L.length : Int) (i : Int) (L.length : Int) p.f0 p.f1 p.f2 p.f3 = _
    conv => lhs; unfold spec_l6With.l1
    rw [if_neg (by omega), wrn hi hl]
  | succ d ih =>
    intro j hd hj
    have hj' : j < L.length := by omega
    have key := or_ev (l6Clash3_ev (hb i) (hb j) hp) (with_l2 hb hp hl hi hj' (ih (j + 1) (by omega) (by omega)) (L.length - (j + 1)) (j + 1) rfl (by omega))
    simp only [anyF, w3, Bool.or_assoc]
    refine Ev.succ (fun k => ?_) key
    show spec_l6With.l1 (k + 1) L (L.length : Int) (i : Int) (j : Int) p.f0 p.f1 p.f2 p.f3 = _
    conv => lhs; unfold spec_l6With.l1
    rw [if_pos (by omega), if_pos (by omega), if_pos (by omega), if_pos (by omega), if_pos (by omega), wrn hj' hl]
theorem with_l0 {L : List PS} {p : PS} (hb : ∀ i : Int, Bd4 (rd_T23 L i)) (hp : Bd4 p) (hl : L.length ≤ 2097152) : ∀ (d i : Nat), L.length - i = d → i ≤ L.length →
    Ev (fun k => spec_l6With.l0 k L (L.length : Int) (i : Int) p.f0 p.f1 p.f2 p.f3) (anyF (w2 L p) d i) := by
  intro d
  induction d with
  | zero =>
    intro i hd hi
    have e : i = L.length := by omega
    subst e
    refine ⟨1, fun k hk => ?_⟩
    obtain ⟨k, rfl⟩ : ∃ m, k = m + 1 := ⟨k - 1, by omega⟩
    show spec_l6With.l0 (k + 1) L (L.length : Int) (L.length : Int) p.f0 p.f1 p.f2 p.f3 = _
    unfold spec_l6With.l0
    rw [if_neg (by omega)]; rfl
  | succ d ih =>
    intro i hd hi
    have hi' : i < L.length := by omega
    have key := with_l1 hb hp hl hi' (ih (i + 1) (by omega) (by omega)) (L.length - (i + 1)) (i + 1) rfl (by omega)
    have key := or_ev (Ev.now' (fun _ => l6Clash2_v (hb i) hp)) key
    simp only [anyF, w2, Bool.or_assoc]
    refine Ev.succ (fun k => ?_) key
    show spec_l6With.l0 (k + 1) L (L.length : Int) (i : Int) p.f0 p.f1 p.f2 p.f3 = _
    conv => lhs; unfold spec_l6With.l0
    rw [if_pos (by omega), if_pos (by omega), if_pos (by omega), wrn hi' hl]
theorem l6With_ev {L : List PS} {p : PS} (hL : ∀ p ∈ L, okp p = true) (hp : Bd4 p) (hl : L.length ≤ 2097152) : Ev (fun k => spec_l6With.f k L p.f0 p.f1 p.f2 p.f3) (wl L p) :=
  Ev.congr (f := fun k => spec_l6With.l0 k L (L.length : Int) ((0 : Nat) : Int) p.f0 p.f1 p.f2 p.f3) (fun k => rfl) (with_l0 (rdB hL) hp hl L.length 0 (by omega) (by omega))
def r4 (T : List PS) (r q p : PS) (m : Nat) : Bool := c4 (rd_T23 T m) r q p
def r3 (L T : List PS) (q p : PS) (j : Nat) : Bool := c3 (rd_T23 T j) q p || anyF (r4 (L.take j) (rd_T23 T j) q p) j 0
def r2 (L : List PS) (p : PS) (i : Nat) : Bool := c2 (rd_T23 L i) p || anyF (r3 L (L.take i) (rd_T23 L i) p) i 0
theorem not_or_and (a b c : Bool) : (!(a || b) && c) = (!a && (!b && c)) := by cases a <;> cases b <;> rfl
theorem room_l2 {L T1 T2 : List PS} {p q r : PS} (hb : ∀ i : Int, Bd4 (rd_T23 T2 i)) (hp : Bd4 p) (hq : Bd4 q) (hr : Bd4 r) (hl : L.length ≤ 2097152) (hl1 : T1.length ≤ 2097152) (hl2 : T2.length ≤ 2097152) {n i : Int} {j : Nat} {v : Bool} (hj : j < T1.length)
    (hn : Ev (fun k => impl_room.l1 k L L n i T1 (T1.length : Int) ((j + 1 : Nat) : Int) p.f0 p.f1 p.f2 p.f3 q.f0 q.f1 q.f2 q.f3) v) : ∀ (d m : Nat), T2.length - m = d → m ≤ T2.length →
    Ev (fun k => impl_room.l2 k L L n i T1 (T1.length : Int) (j : Int) T2 (T2.length : Int) (m : Int) p.f0 p.f1 p.f2 p.f3 q.f0 q.f1 q.f2 q.f3 r.f0 r.f1 r.f2 r.f3) (!anyF (r4 T2 r q p) d m && v) := by
  intro d
  induction d with
  | zero =>
    intro m hd hm
    have e : m = T2.length := by omega
    subst e
    refine Ev.succ (fun k => ?_) hn
    show impl_room.l2 (k + 1) L L n i T1 (T1.length : Int) (j : Int) T2 (T2.length : Int) (T2.length : Int) p.f0 p.f1 p.f2 p.f3 q.f0 q.f1 q.f2 q.f3 r.f0 r.f1 r.f2 r.f3 = _
    conv => lhs; unfold impl_room.l2
    rw [if_neg (by omega), wrn hj hl1]
  | succ d ih =>
    intro m hd hm
    have hm' : m < T2.length := by omega
    have key := nor_ev (clash4_ev (hb m) hr hq hp) (ih (m + 1) (by omega) (by omega))
    simp only [anyF, not_or_and]
    refine Ev.succ (fun k => ?_) key
    show impl_room.l2 (k + 1) L L n i T1 (T1.length : Int) (j : Int) T2 (T2.length : Int) (m : Int) p.f0 p.f1 p.f2 p.f3 q.f0 q.f1 q.f2 q.f3 r.f0 r.f1 r.f2 r.f3 = _
    conv => lhs; unfold impl_room.l2
    rw [if_pos (by omega), if_pos (by omega), if_pos (by omega), wrn hm' hl2]
theorem room_l1 {L T1 : List PS} {p q : PS} (hL : ∀ p ∈ L, okp p = true) (hb : ∀ i : Int, Bd4 (rd_T23 T1 i)) (hp : Bd4 p) (hq : Bd4 q) (hl : L.length ≤ 2097152) (hl1 : T1.length ≤ L.length) {i : Nat} {v : Bool} (hi : i < L.length)
    (hn : Ev (fun k => impl_room.l0 k L L (L.length : Int) ((i + 1 : Nat) : Int) p.f0 p.f1 p.f2 p.f3) v) : ∀ (d j : Nat), T1.length - j = d → j ≤ T1.length →
    Ev (fun k => impl_room.l1 k L L (L.length : Int) (i : Int) T1 (T1.length : Int) (j : Int) p.f0 p.f1 p.f2 p.f3 q.f0 q.f1 q.f2 q.f3) (!anyF (r3 L T1 q p) d j && v) := by
  intro d
  induction d with
  | zero =>
    intro j hd hj
    have e : j = T1.length := by omega
    subst e
    refine Ev.succ (fun k => ?_) hn
    show impl_room.l1 (k + 1) L L (L.length : Int) (i : Int) T1 (T1.length : Int) (T1.length : Int) p.f0 p.f1 p.f2 p.f3 q.f0 q.f1 q.f2 q.f3 = _
    conv => lhs; unfold impl_room.l1
    rw [if_neg (by omega), wrn hi hl]
  | succ d ih =>
    intro j hd hj
    have hj' : j < T1.length := by omega
    have lt : (L.take j).length = j := by rw [List.length_take]; omega
    have k2 := room_l2 (L := L) (T1 := T1) (T2 := L.take j) (p := p) (q := q) (r := rd_T23 T1 j) (n := (L.length : Int)) (i := (i : Int)) (rdB (take_ok hL j)) hp hq (hb j) hl (by omega) (by omega) hj' (ih (j + 1) (by omega) (by omega)) j 0 (by omega) (by omega)
    have key := nor_ev (clash3_ev (hb j) hq hp) k2
    simp only [anyF, r3, not_or_and]
    refine Ev.succ (fun k => ?_) key
    show impl_room.l1 (k + 1) L L (L.length : Int) (i : Int) T1 (T1.length : Int) (j : Int) p.f0 p.f1 p.f2 p.f3 q.f0 q.f1 q.f2 q.f3 = _
    conv => lhs; unfold impl_room.l1
    rw [if_pos (by omega), if_pos (by omega), if_pos (by omega), if_pos (by omega)]
    simp only [Option.bind_some, Int.toNat_natCast]; rfl
theorem room_l0 {L : List PS} {p : PS} (hL : ∀ p ∈ L, okp p = true) (hp : Bd4 p) (hl : L.length ≤ 2097152) : ∀ (d i : Nat), L.length - i = d → i ≤ L.length →
    Ev (fun k => impl_room.l0 k L L (L.length : Int) (i : Int) p.f0 p.f1 p.f2 p.f3) (!anyF (r2 L p) d i) := by
  intro d
  induction d with
  | zero =>
    intro i hd hi
    have e : i = L.length := by omega
    subst e
    refine ⟨1, fun k hk => ?_⟩
    obtain ⟨k, rfl⟩ : ∃ m, k = m + 1 := ⟨k - 1, by omega⟩
    show impl_room.l0 (k + 1) L L (L.length : Int) (L.length : Int) p.f0 p.f1 p.f2 p.f3 = _
    unfold impl_room.l0
    rw [if_neg (by omega)]; rfl
  | succ d ih =>
    intro i hd hi
    have hi' : i < L.length := by omega
    have lt : (L.take i).length = i := by rw [List.length_take]; omega
    have k1 := room_l1 (T1 := L.take i) (q := rd_T23 L i) hL (rdB (take_ok hL i)) hp (rdB hL i) hl (by omega) hi' (ih (i + 1) (by omega) (by omega)) i 0 (by omega) (by omega)
    have key := nor_ev (clash2_ev (rdB hL i) hp) k1
    have e : (!anyF (r2 L p) (d + 1) i) = (!c2 (rd_T23 L i) p && (!anyF (r3 L (L.take i) (rd_T23 L i) p) i 0 && !anyF (r2 L p) d (i + 1))) := by
      simp only [anyF, r2, Bool.not_or, Bool.and_assoc]
    rw [e]
    refine Ev.succ (fun k => ?_) key
    show impl_room.l0 (k + 1) L L (L.length : Int) (i : Int) p.f0 p.f1 p.f2 p.f3 = _
    conv => lhs; unfold impl_room.l0
    rw [if_pos (by omega), if_pos (by omega), if_pos (by omega), if_pos (by omega)]
    simp only [Option.bind_some, Int.toNat_natCast]; rfl
theorem r_w {L : List PS} {p : PS} : anyF (r2 L p) L.length 0 = wl L p := by
  rw [Bool.eq_iff_iff]
  unfold wl
  simp only [anyF_iff, r2, w2, r3, w3, r4, w4, Bool.or_eq_true]
  constructor
  · rintro ⟨i, _, h1, h | ⟨j, _, h2, h | ⟨m, _, h3, h⟩⟩⟩
    · exact ⟨i, by omega, h1, .inl h⟩
    · rw [rd_take (by omega)] at h
      exact ⟨j, by omega, by omega, .inr ⟨i, by omega, by omega, .inl h⟩⟩
    · rw [rd_take (by omega), rd_take (by omega)] at h
      exact ⟨m, by omega, by omega, .inr ⟨j, by omega, by omega, .inr ⟨i, by omega, by omega, h⟩⟩⟩
  · rintro ⟨i, _, h1, h | ⟨j, h2, h3, h | ⟨m, h4, h5, h⟩⟩⟩
    · exact ⟨i, by omega, h1, .inl h⟩
    · exact ⟨j, by omega, by omega, .inr ⟨i, by omega, by omega, .inl (by rw [rd_take (by omega)]; exact h)⟩⟩
    · exact ⟨m, by omega, by omega, .inr ⟨j, by omega, by omega, .inr ⟨i, by omega, by omega, by rw [rd_take (by omega), rd_take (by omega)]; exact h⟩⟩⟩
theorem room_ev {L : List PS} {p : PS} (hL : ∀ p ∈ L, okp p = true) (hp : Bd4 p) (hl : L.length ≤ 2097152) : Ev (fun k => impl_room.f k L p.f0 p.f1 p.f2 p.f3) (!wl L p) := by
  rw [← r_w]
  exact Ev.congr (f := fun k => impl_room.l0 k L L (L.length : Int) ((0 : Nat) : Int) p.f0 p.f1 p.f2 p.f3) (fun k => rfl) (room_l0 hL hp hl L.length 0 (by omega) (by omega))
def opF (L : List PS) (i : Nat) : Bool := wl (L.take i) (rd_T23 L i)
def opn (L : List PS) : Bool := !anyF (opF L) L.length 0
theorem l6Open_l0 {L : List PS} (hL : ∀ p ∈ L, okp p = true) (hl : L.length ≤ 2097152) : ∀ (d i : Nat), L.length - i = d → i ≤ L.length → Ev (fun k => spec_l6Open.l0 k L (i : Int)) (!anyF (opF L) d i) := by
  intro d
  induction d with
  | zero =>
    intro i hd hi
    refine ⟨1, fun k hk => ?_⟩
    obtain ⟨k, rfl⟩ : ∃ m, k = m + 1 := ⟨k - 1, by omega⟩
    show spec_l6Open.l0 (k + 1) L (i : Int) = _
    unfold spec_l6Open.l0
    rw [if_neg (by omega)]; rfl
  | succ d ih =>
    intro i hd hi
    have hi' : i < L.length := by omega
    have lt : (L.take i).length = i := by rw [List.length_take]; omega
    have key := nor_ev (l6With_ev (take_ok hL i) (rdB hL i) (by omega)) (ih (i + 1) (by omega) (by omega))
    simp only [anyF, Bool.not_or]
    refine Ev.succ (fun k => ?_) key
    show spec_l6Open.l0 (k + 1) L (i : Int) = _
    conv => lhs; unfold spec_l6Open.l0
    rw [if_pos (by omega), if_pos (by omega), if_pos (by omega), wrn hi' hl]; rfl
theorem l6Open_ev {L : List PS} (hL : ∀ p ∈ L, okp p = true) (hl : L.length ≤ 2097152) : Ev (fun k => spec_l6Open.f k L) (opn L) := by
  by_cases h : L.length = 0
  · refine ⟨1, fun k hk => ?_⟩
    obtain ⟨k, rfl⟩ : ∃ m, k = m + 1 := ⟨k - 1, by omega⟩
    show spec_l6Open.l0 (k + 1) L 1 = _
    unfold spec_l6Open.l0
    rw [if_neg (by omega), opn, h]; rfl
  · have e : opn L = !anyF (opF L) (L.length - 1) 1 := by
      unfold opn
      rw [show L.length = (L.length - 1) + 1 by omega]
      have : opF L 0 = false := rfl
      simp only [anyF, this, Bool.false_or, Nat.add_sub_cancel, Nat.zero_add]
    rw [e]
    exact Ev.congr (f := fun k => spec_l6Open.l0 k L ((1 : Nat) : Int)) (fun k => rfl) (l6Open_l0 hL hl (L.length - 1) 1 rfl (by omega))
theorem and_ev {f : Nat → Option Bool} {g : Nat → Option Bool} {a b : Bool} (hf : Ev f a) (hg : a = true → Ev g b) : Ev (fun k => (f k).bind fun t => if t = true then g k else some false) (a && b) := by
  refine Ev.of_bind hf ?_
  cases a
  · exact ⟨0, fun k _ => rfl⟩
  · exact Ev.congr (fun k => by simp) (hg rfl)
theorem open_l0 {L : List PS} (hL : ∀ p ∈ L, okp p = true) (hl : L.length ≤ 2097152) : ∀ (d i : Nat), L.length - i = d → i ≤ L.length → Ev (fun k => impl_open.l0 k L L (L.length : Int) (i : Int)) (!anyF (opF L) d i) := by
  intro d
  induction d with
  | zero =>
    intro i hd hi
    refine ⟨1, fun k hk => ?_⟩
    obtain ⟨k, rfl⟩ : ∃ m, k = m + 1 := ⟨k - 1, by omega⟩
    show impl_open.l0 (k + 1) L L (L.length : Int) (i : Int) = _
    unfold impl_open.l0
    rw [if_neg (by omega)]; rfl
  | succ d ih =>
    intro i hd hi
    have hi' : i < L.length := by omega
    have lt : (L.take i).length = i := by rw [List.length_take]; omega
    have key := and_ev (room_ev (take_ok hL i) (rdB hL i) (by omega)) (fun _ => ih (i + 1) (by omega) (by omega))
    simp only [anyF, Bool.not_or]
    refine Ev.succ (fun k => ?_) key
    show impl_open.l0 (k + 1) L L (L.length : Int) (i : Int) = _
    conv => lhs; unfold impl_open.l0
    rw [if_pos (by omega), if_pos (by omega), if_pos (by omega), if_pos (by omega), wrn hi' hl]; rfl
theorem open_ev {L : List PS} (hL : ∀ p ∈ L, okp p = true) (hl : L.length ≤ 2097152) : Ev (fun k => impl_open.f k L) (opn L) :=
  Ev.congr (f := fun k => impl_open.l0 k L L (L.length : Int) ((0 : Nat) : Int)) (fun k => rfl) (open_l0 hL hl L.length 0 (by omega) (by omega))
theorem l6Right_l0 {L : List PS} (hl : L.length ≤ 2097152) : ∀ (d i : Nat), L.length - i = d → i ≤ L.length → Ev (fun k => spec_l6Right.l0 k L (i : Int)) ((L.drop i).all okp && decide ((L.length : Int) ≤ 24)) := by
  intro d
  induction d with
  | zero =>
    intro i hd hi
    have e : i = L.length := by omega
    subst e
    refine ⟨1, fun k hk => ?_⟩
    obtain ⟨k, rfl⟩ : ∃ m, k = m + 1 := ⟨k - 1, by omega⟩
    show spec_l6Right.l0 (k + 1) L (L.length : Int) = _
    unfold spec_l6Right.l0
    rw [if_neg (by omega), List.drop_length, List.all_nil, Bool.true_and]
  | succ d ih =>
    intro i hd hi
    have hi' : i < L.length := by omega
    rw [List.drop_eq_getElem_cons hi', List.all_cons, Bool.and_assoc]
    have key := and_ev (spec_PlaneOk_ev L[i].f0 L[i].f1 L[i].f2 L[i].f3) (fun _ => ih (i + 1) (by omega) (by omega))
    refine Ev.succ (fun k => ?_) key
    show spec_l6Right.l0 (k + 1) L (i : Int) = _
    conv => lhs; unfold spec_l6Right.l0
    rw [if_pos (by omega), if_pos (by omega), rd38 hi', wrn hi' hl]
theorem planesOk_l0 {L : List PS} (hl : L.length ≤ 2097152) : ∀ (d i : Nat), L.length - i = d → i ≤ L.length → Ev (fun k => impl_planesOk.l0 k L (L.length : Int) (i : Int)) ((L.drop i).all okp) := by
  intro d
  induction d with
  | zero =>
    intro i hd hi
    have e : i = L.length := by omega
    subst e
    refine ⟨1, fun k hk => ?_⟩
    obtain ⟨k, rfl⟩ : ∃ m, k = m + 1 := ⟨k - 1, by omega⟩
    show impl_planesOk.l0 (k + 1) L (L.length : Int) (L.length : Int) = _
    unfold impl_planesOk.l0
    rw [if_neg (by omega), List.drop_length, List.all_nil]
  | succ d ih =>
    intro i hd hi
    have hi' : i < L.length := by omega
    rw [List.drop_eq_getElem_cons hi', List.all_cons]
    have key := and_ev (impl_PlaneOk_ev L[i].f0 L[i].f1 L[i].f2 L[i].f3) (fun _ => ih (i + 1) (by omega) (by omega))
    refine Ev.succ (fun k => ?_) key
    show impl_planesOk.l0 (k + 1) L (L.length : Int) (i : Int) = _
    conv => lhs; unfold impl_planesOk.l0
    rw [if_pos (by omega), if_pos (by omega), if_pos (by omega), rd38 hi', wrn hi' hl]
def opnV (L : List PS) : Bool := (L.all okp && decide ((L.length : Int) ≤ 24)) && opn L
theorem bind_id {α : Type} (o : Option α) : (o.bind fun t => some t) = o := by cases o <;> rfl
theorem spec_Open_ev {L : List PS} (hl : L.length ≤ 2097152) : Ev (fun k => spec_Open.f k L) (opnV L) := by
  have h1 := l6Right_l0 hl L.length 0 (by omega) (by omega)
  rw [List.drop_zero] at h1
  have key := and_ev (f := fun k => spec_l6Right.f k L) (g := fun k => spec_l6Open.f k L) h1 (fun e => by
    rw [Bool.and_eq_true] at e
    exact l6Open_ev (fun p hp => List.all_eq_true.mp e.1 p hp) hl)
  exact Ev.congr (fun k => by simp only [spec_Open.f, bind_id]) key
theorem impl_Open_ev {L : List PS} (hl : L.length ≤ 2097152) : Ev (fun k => impl_Open.f k L) (opnV L) := by
  have h1 := planesOk_l0 hl L.length 0 (by omega) (by omega)
  rw [List.drop_zero] at h1
  by_cases c : (L.length : Int) ≤ 24
  · have key := and_ev (f := fun k => impl_planesOk.f k L) (g := fun k => impl_open.f k L) h1 (fun e => open_ev (fun p hp => List.all_eq_true.mp e p hp) hl)
    unfold opnV
    rw [decide_eq_true c, Bool.and_true]
    exact Ev.congr (fun k => by simp only [impl_Open.f, bind_id]; rw [if_pos c]) key
  · refine ⟨0, fun k _ => ?_⟩
    simp only [impl_Open.f, opnV]
    rw [if_neg c, decide_eq_false c]; simp
def eqp (p q : PS) : Bool := p.f0 == q.f0 && (p.f1 == q.f1 && (p.f2 == q.f2 && p.f3 == q.f3))
theorem eqp_iff {p q : PS} : eqp p q = true ↔ p = q := by
  obtain ⟨a, b, c, d⟩ := p
  obtain ⟨e, f, g, h⟩ := q
  simp [eqp]
theorem eqp_self (p : PS) : eqp p p = true := eqp_iff.mpr rfl
theorem eqp_comm (p q : PS) : eqp p q = eqp q p := by rw [Bool.eq_iff_iff, eqp_iff, eqp_iff]; exact eq_comm
theorem neqp (p q : PS) : (!(p.f0 == q.f0) || (!(p.f1 == q.f1) || (!(p.f2 == q.f2) || (!(p.f3 == q.f3))))) = !eqp p q := by simp only [eqp, Bool.not_and]
def fl (p : PS) : PS := ⟨wrap64 (-p.f0), wrap64 (-p.f1), wrap64 (-p.f2), wrap64 (-p.f3)⟩
theorem fl_bd {p : PS} (h : Bd4 p) : Bd4 (fl p) := ⟨⟨neg_bd h.1.1, neg_bd h.1.2.1, neg_bd h.1.2.2⟩, neg_bd h.2⟩
def oth (L : List PS) (q : PS) : List PS := L.filter (fun p => !eqp p q)
theorem oth_ok {L : List PS} (hL : ∀ p ∈ L, okp p = true) (q : PS) : ∀ p ∈ oth L q, okp p = true := fun p hp => hL p (List.mem_filter.mp hp).1
theorem oth_len (L : List PS) (q : PS) : (oth L q).length ≤ L.length := List.length_filter_le _ _
def fstB (L : List PS) (i : Nat) : Bool := !anyF (fun j => eqp (rd_T23 L j) (rd_T23 L i)) i 0
def cd (L : List PS) (i : Nat) : Bool := fstB L i && !wl (oth L (rd_T23 L i)) (fl (rd_T23 L i))
def ndl (L : List PS) : Nat → Nat → List Int
  | 0, _ => []
  | d + 1, i => (if cd L i = true then [(i : Int)] else []) ++ ndl L d (i + 1)
theorem ndl_len (L : List PS) : ∀ d i, (ndl L d i).length ≤ d
  | 0, _ => Nat.le_refl _
  | d + 1, i => by
    have := ndl_len L d (i + 1)
    unfold ndl
    rw [List.length_append]
    split <;> simp <;> omega
def late (L : List PS) (i : Nat) (m : Nat) : Bool := eqp (rd_T23 L m) (rd_T23 L i) && decide (m < i)
theorem need_l1 {L : List PS} (hl : L.length ≤ 1048576) {out : List Int} {i : Nat} {V : List Int} (hi : i < L.length) : ∀ (d j : Nat) (acc : List PS) (b : Bool), L.length - j = d → j ≤ L.length → acc.length ≤ j →
    Ev (fun k => spec_l7Needed.l1 k L out (i : Int) (acc ++ oth (L.drop j) (rd_T23 L i)) (b && !anyF (late L i) d j) (L.length : Int)) V → Ev (fun k => spec_l7Needed.l1 k L out (i : Int) acc b (j : Int)) V := by
  intro d
  induction d with
  | zero =>
    intro j acc b hd hj ha h
    have e : j = L.length := by omega
    subst e
    simpa [oth, anyF] using h
  | succ d ih =>
    intro j acc b hd hj ha h
    have hj' : j < L.length := by omega
    have s1 : ∀ k, spec_l7Needed.l1 (k + 1) L out (i : Int) acc b (j : Int) = spec_l7Needed.j2 k L out (i : Int) acc b (j : Int) (eqp (rd_T23 L j) (rd_T23 L i)) := fun k => by
      conv => lhs; unfold spec_l7Needed.l1
      rw [if_pos (by omega)]
      by_cases c : j = i
      · subst c
        rw [if_pos rfl, eqp_self]
      · rw [if_neg (by omega), if_pos (by omega), if_pos (by omega), if_pos (by omega)]; rfl
    refine Ev.succ s1 ?_
    rw [List.drop_eq_getElem_cons hj'] at h
    have eR : rd_T23 L j = L[j] := rd38 hj'
    cases c : eqp (rd_T23 L j) (rd_T23 L i)
    · refine Ev.succ (g := fun k => spec_l7Needed.l1 k L out (i : Int) (acc ++ [rd_T23 L j]) b ((j + 1 : Nat) : Int)) (fun k => ?_) (ih (j + 1) _ b (by omega) (by omega) (by simp; omega) ?_)
      · show spec_l7Needed.j2 (k + 1) L out (i : Int) acc b (j : Int) false = _
        conv => lhs; unfold spec_l7Needed.j2
        rw [if_neg (by simp), if_pos (by omega), if_pos (by omega), if_pos (by omega), wr_nat hj' hl]
      · have e1 : oth (L[j] :: L.drop (j + 1)) (rd_T23 L i) = L[j] :: oth (L.drop (j + 1)) (rd_T23 L i) := by
          unfold oth
          rw [List.filter_cons_of_pos (by rw [← eR, c]; rfl)]
        have e2 : late L i j = false := by simp [late, c]
        rw [e1] at h
        simp only [anyF, e2, Bool.false_or] at h
        rw [List.append_assoc, eR]
        exact h
    · refine Ev.succ (g := fun k => spec_l7Needed.l1 k L out (i : Int) acc (b && decide (j ≥ i)) ((j + 1 : Nat) : Int)) (fun k => ?_) (ih (j + 1) _ _ (by omega) (by omega) (by omega) ?_)
      · show spec_l7Needed.j2 (k + 1) L out (i : Int) acc b (j : Int) true = _
        conv => lhs; unfold spec_l7Needed.j2
        rw [if_pos rfl, wr_nat hj' hl]
        cases b
        · rw [if_neg (by simp), Bool.false_and]
        · rw [if_pos rfl, Bool.true_and]
          congr 1
          rw [decide_eq_decide]; omega
      · have e1 : oth (L[j] :: L.drop (j + 1)) (rd_T23 L i) = oth (L.drop (j + 1)) (rd_T23 L i) := by
          unfold oth
          rw [List.filter_cons_of_neg (by rw [← eR, c]; simp)]
        have e2 : late L i j = decide (j < i) := by simp [late, c]
        have e3 : decide (j ≥ i) = !decide (j < i) := by
          by_cases g : j < i
          · rw [decide_eq_true g, decide_eq_false (by omega)]; rfl
          · rw [decide_eq_false g, decide_eq_true (by omega)]; rfl
        rw [e1] at h
        simp only [anyF, e2, Bool.not_or] at h
        rw [e3, Bool.and_assoc]
        exact h
theorem fst_late {L : List PS} {i : Nat} (hi : i < L.length) : (true && !anyF (late L i) L.length 0) = fstB L i := by
  rw [Bool.true_and]
  unfold fstB
  congr 1
  rw [Bool.eq_iff_iff]
  simp only [anyF_iff, late, Bool.and_eq_true, decide_eq_true_eq]
  constructor
  · rintro ⟨m, h1, h2, h3, h4⟩; exact ⟨m, by omega, by omega, h3⟩
  · rintro ⟨m, h1, h2, h3⟩; exact ⟨m, by omega, by omega, h3, by omega⟩
theorem need_l0 {L : List PS} (hL : ∀ p ∈ L, okp p = true) (hl : L.length ≤ 1048576) : ∀ (d i : Nat) (out : List Int), L.length - i = d → i ≤ L.length → out.length ≤ i →
    Ev (fun k => spec_l7Needed.l0 k L out (i : Int)) (out ++ ndl L d i) := by
  intro d
  induction d with
  | zero =>
    intro i out hd hi ho
    refine ⟨1, fun k hk => ?_⟩
    obtain ⟨k, rfl⟩ : ∃ m, k = m + 1 := ⟨k - 1, by omega⟩
    show spec_l7Needed.l0 (k + 1) L out (i : Int) = _
    unfold spec_l7Needed.l0
    rw [if_neg (by omega), ndl, List.append_nil]
  | succ d ih =>
    intro i out hd hi ho
    have hi' : i < L.length := by omega
    refine Ev.succ (g := fun k => spec_l7Needed.l1 k L out (i : Int) [] true ((0 : Nat) : Int)) (fun k => ?_) ?_
    · show spec_l7Needed.l0 (k + 1) L out (i : Int) = _
      conv => lhs; unfold spec_l7Needed.l0
      rw [if_pos (by omega)]; rfl
    refine need_l1 hl hi' L.length 0 [] true (by omega) (by omega) (by simp) ?_
    rw [fst_late hi', List.nil_append, List.drop_zero]
    have j3t : ∀ b : Bool, Ev (fun k => spec_l7Needed.j3 k L out (i : Int) b) (out ++ ((if b = true then [(i : Int)] else []) ++ ndl L d (i + 1))) := fun b => by
      cases b
      · refine Ev.succ (fun k => ?_) (by simpa using ih (i + 1) out (by omega) (by omega) (by omega))
        show spec_l7Needed.j3 (k + 1) L out (i : Int) false = _
        conv => lhs; unfold spec_l7Needed.j3
        rw [if_neg (by simp), wr_nat hi' hl]; rfl
      · refine Ev.succ (g := fun k => spec_l7Needed.l0 k L (out ++ [(i : Int)]) ((i + 1 : Nat) : Int)) (fun k => ?_) (by rw [if_pos rfl, ← List.append_assoc]; exact ih (i + 1) (out ++ [(i : Int)]) (by omega) (by omega) (by simp; omega))
        show spec_l7Needed.j3 (k + 1) L out (i : Int) true = _
        conv => lhs; unfold spec_l7Needed.j3
        rw [if_pos rfl, if_pos (by omega), wr_nat hi' hl]
    have hw := l6With_ev (oth_ok hL (rd_T23 L i)) (fl_bd (rdB hL i)) (Nat.le_trans (oth_len _ _) (by omega))
    unfold ndl cd
    cases c : fstB L i
    · rw [Bool.false_and]
      refine Ev.succ (fun k => ?_) (j3t false)
      show spec_l7Needed.l1 (k + 1) L out (i : Int) (oth L (rd_T23 L i)) false (L.length : Int) = _
      conv => lhs; unfold spec_l7Needed.l1
      rw [if_neg (by omega), if_neg (by simp)]
    · rw [Bool.true_and]
      refine Ev.succ (g := fun k => (spec_l6With.f k (oth L (rd_T23 L i)) (fl (rd_T23 L i)).f0 (fl (rd_T23 L i)).f1 (fl (rd_T23 L i)).f2 (fl (rd_T23 L i)).f3).bind fun t690 => spec_l7Needed.j3 k L out (i : Int) (!t690)) (fun k => ?_) (Ev.of_bind hw (j3t _))
      show spec_l7Needed.l1 (k + 1) L out (i : Int) (oth L (rd_T23 L i)) true (L.length : Int) = _
      conv => lhs; unfold spec_l7Needed.l1
      rw [if_neg (by omega), if_pos rfl, if_pos (by omega), if_pos (by omega)]
      simp only [spec_l3Flip.f, Option.bind_some]; rfl
def fi (L : List PS) (q : PS) : Nat → Nat → Int
  | 0, _ => -1
  | d + 1, j => if eqp q (rd_T23 L j) = true then (j : Int) else fi L q d (j + 1)
theorem index_l0 {L : List PS} (hl : L.length ≤ 1048576) (q : PS) : ∀ (d j : Nat), L.length - j = d → j ≤ L.length → Ev (fun k => impl_Plane.l0 k L (L.length : Int) (j : Int) q.f0 q.f1 q.f2 q.f3) (fi L q d j) := by
  intro d
  induction d with
  | zero =>
    intro j hd hj
    refine ⟨1, fun k hk => ?_⟩
    obtain ⟨k, rfl⟩ : ∃ m, k = m + 1 := ⟨k - 1, by omega⟩
    show impl_Plane.l0 (k + 1) L (L.length : Int) (j : Int) q.f0 q.f1 q.f2 q.f3 = _
    unfold impl_Plane.l0
    rw [if_neg (by omega)]; rfl
  | succ d ih =>
    intro j hd hj
    have hj' : j < L.length := by omega
    have step : ∀ k, impl_Plane.l0 (k + 1) L (L.length : Int) (j : Int) q.f0 q.f1 q.f2 q.f3 = if eqp q (rd_T23 L j) = true then some (j : Int) else impl_Plane.l0 k L (L.length : Int) ((j + 1 : Nat) : Int) q.f0 q.f1 q.f2 q.f3 := fun k => by
      conv => lhs; unfold impl_Plane.l0
      rw [if_pos (by omega), if_pos (by omega), if_pos (by omega), wr_nat hj' hl]; rfl
    unfold fi
    by_cases c : eqp q (rd_T23 L j) = true
    · rw [if_pos c]
      exact ⟨1, fun k hk => by
        obtain ⟨k, rfl⟩ : ∃ m, k = m + 1 := ⟨k - 1, by omega⟩
        show impl_Plane.l0 (k + 1) L (L.length : Int) (j : Int) q.f0 q.f1 q.f2 q.f3 = _
        rw [step, if_pos c]⟩
    · rw [if_neg c]
      refine Ev.succ (fun k => ?_) (ih (j + 1) (by omega) (by omega))
      show impl_Plane.l0 (k + 1) L (L.length : Int) (j : Int) q.f0 q.f1 q.f2 q.f3 = _
      rw [step, if_neg c]
theorem fi_iff {L : List PS} {i : Nat} (hi : i < L.length) : ∀ (d j : Nat), L.length - j = d → j ≤ i → (fi L (rd_T23 L i) d j = (i : Int) ↔ anyF (fun m => eqp (rd_T23 L m) (rd_T23 L i)) (i - j) j = false) := by
  intro d
  induction d with
  | zero => intro j hd hj; omega
  | succ d ih =>
    intro j hd hj
    unfold fi
    by_cases e : j = i
    · subst e
      rw [if_pos (eqp_self _), Nat.sub_self]; simp [anyF]
    · rw [show i - j = (i - (j + 1)) + 1 by omega]
      simp only [anyF]
      rw [eqp_comm (rd_T23 L j)]
      by_cases c : eqp (rd_T23 L i) (rd_T23 L j) = true
      · rw [if_pos c, c]; simp; omega
      · rw [if_neg c, ih (j + 1) (by omega) (by omega), Bool.eq_false_iff.mpr c, Bool.false_or]
theorem needed_l1 {L : List PS} (hl : L.length ≤ 1048576) {out : List Int} {i : Nat} {q : PS} {V : List Int} (hi : i < L.length) : ∀ (d j : Nat) (acc : List PS), L.length - j = d → j ≤ L.length → acc.length ≤ j →
    Ev (fun k => impl_needed.l1 k L out (i : Int) (acc ++ oth (L.drop j) q) L (L.length : Int) (i : Int) L (L.length : Int) (L.length : Int) q.f0 q.f1 q.f2 q.f3) V → Ev (fun k => impl_needed.l1 k L out (i : Int) acc L (L.length : Int) (i : Int) L (L.length : Int) (j : Int) q.f0 q.f1 q.f2 q.f3) V := by
  intro d
  induction d with
  | zero =>
    intro j acc hd hj ha h
    have e : j = L.length := by omega
    subst e
    simpa [oth] using h
  | succ d ih =>
    intro j acc hd hj ha h
    have hj' : j < L.length := by omega
    have step : ∀ k, impl_needed.l1 (k + 1) L out (i : Int) acc L (L.length : Int) (i : Int) L (L.length : Int) (j : Int) q.f0 q.f1 q.f2 q.f3 = if (!eqp (rd_T23 L j) q) = true then impl_needed.l1 k L out (i : Int) (acc ++ [rd_T23 L j]) L (L.length : Int) (i : Int) L (L.length : Int) ((j + 1 : Nat) : Int) q.f0 q.f1 q.f2 q.f3 else impl_needed.l1 k L out (i : Int) acc L (L.length : Int) (i : Int) L (L.length : Int) ((j + 1 : Nat) : Int) q.f0 q.f1 q.f2 q.f3 := fun k => by
      conv => lhs; unfold impl_needed.l1
      rw [if_pos (by omega), if_pos (by omega), if_pos (by omega), neqp, wr_nat hj' hl, if_pos (show acc.length < 4398046511104 by omega)]
    rw [List.drop_eq_getElem_cons hj'] at h
    have eR : rd_T23 L j = L[j] := rd38 hj'
    refine Ev.succ step ?_
    cases c : eqp (rd_T23 L j) q
    · refine Ev.congr (fun k => if_pos rfl) (ih (j + 1) _ (by omega) (by omega) (by simp; omega) ?_)
      have e1 : oth (L[j] :: L.drop (j + 1)) q = L[j] :: oth (L.drop (j + 1)) q := by
        unfold oth
        rw [List.filter_cons_of_pos (by rw [← eR, c]; rfl)]
      rw [e1] at h
      rw [List.append_assoc, eR]
      exact h
    · refine Ev.congr (fun k => if_neg (by simp)) (ih (j + 1) _ (by omega) (by omega) (by omega) ?_)
      have e1 : oth (L[j] :: L.drop (j + 1)) q = oth (L.drop (j + 1)) q := by
        unfold oth
        rw [List.filter_cons_of_neg (by rw [← eR, c]; simp)]
      rw [e1] at h
      exact h
theorem needed_l0 {L : List PS} (hL : ∀ p ∈ L, okp p = true) (hl : L.length ≤ 1048576) : ∀ (d i : Nat) (out : List Int), L.length - i = d → i ≤ L.length → out.length ≤ i →
    Ev (fun k => impl_needed.l0 k L out L (L.length : Int) (i : Int)) (out ++ ndl L d i) := by
  intro d
  induction d with
  | zero =>
    intro i out hd hi ho
    refine ⟨1, fun k hk => ?_⟩
    obtain ⟨k, rfl⟩ : ∃ m, k = m + 1 := ⟨k - 1, by omega⟩
    show impl_needed.l0 (k + 1) L out L (L.length : Int) (i : Int) = _
    unfold impl_needed.l0
    rw [if_neg (by omega), ndl, List.append_nil]
  | succ d ih =>
    intro i out hd hi ho
    have hi' : i < L.length := by omega
    have hx := index_l0 hl (rd_T23 L i) L.length 0 (by omega) (by omega)
    have hf := fi_iff hi' L.length 0 (by omega) (by omega)
    rw [Nat.sub_zero] at hf
    refine Ev.succ (g := fun k => (impl_Plane.f k L (rd_T23 L i).f0 (rd_T23 L i).f1 (rd_T23 L i).f2 (rd_T23 L i).f3).bind fun t705 => if t705 = (i : Int) then impl_needed.l1 k L out (i : Int) [] L (L.length : Int) (i : Int) L (L.length : Int) ((0 : Nat) : Int) (rd_T23 L i).f0 (rd_T23 L i).f1 (rd_T23 L i).f2 (rd_T23 L i).f3 else impl_needed.l0 k L out L (L.length : Int) ((i + 1 : Nat) : Int)) (fun k => ?_) ?_
    · show impl_needed.l0 (k + 1) L out L (L.length : Int) (i : Int) = _
      conv => lhs; unfold impl_needed.l0
      rw [if_pos (by omega), if_pos (by omega), if_pos (by omega), wr_nat hi' hl]; rfl
    refine Ev.of_bind (Ev.congr (fun k => rfl) hx) ?_
    have nx := ih (i + 1) out (by omega) (by omega) (by omega)
    unfold ndl cd
    cases c : fstB L i
    · have c' : ¬ fi L (rd_T23 L i) L.length 0 = (i : Int) := fun h => by
        have := hf.mp h
        simp only [fstB, this] at c
        cases c
      rw [Bool.false_and]
      exact Ev.congr (fun k => if_neg c') (by simpa using nx)
    · have c' : fi L (rd_T23 L i) L.length 0 = (i : Int) := hf.mpr (by simpa [fstB] using c)
      rw [Bool.true_and]
      refine Ev.congr (fun k => if_pos c') ?_
      refine needed_l1 hl hi' L.length 0 [] (by omega) (by omega) (by simp) ?_
      rw [List.nil_append, List.drop_zero]
      have hr := room_ev (oth_ok hL (rd_T23 L i)) (fl_bd (rdB hL i)) (Nat.le_trans (oth_len L (rd_T23 L i)) (by omega))
      refine Ev.succ (g := fun k => (impl_room.f k (oth L (rd_T23 L i)) (fl (rd_T23 L i)).f0 (fl (rd_T23 L i)).f1 (fl (rd_T23 L i)).f2 (fl (rd_T23 L i)).f3).bind fun t715 => if t715 = true then impl_needed.l0 k L (out ++ [(i : Int)]) L (L.length : Int) ((i + 1 : Nat) : Int) else impl_needed.l0 k L out L (L.length : Int) ((i + 1 : Nat) : Int)) (fun k => ?_) ?_
      · show impl_needed.l1 (k + 1) L out (i : Int) (oth L (rd_T23 L i)) L (L.length : Int) (i : Int) L (L.length : Int) (L.length : Int) (rd_T23 L i).f0 (rd_T23 L i).f1 (rd_T23 L i).f2 (rd_T23 L i).f3 = _
        conv => lhs; unfold impl_needed.l1
        rw [if_neg (by omega), wr_nat hi' hl]
        simp only [impl_flip.f, Option.bind_some]
        rw [if_pos (by omega)]; rfl
      refine Ev.of_bind hr ?_
      cases wl (oth L (rd_T23 L i)) (fl (rd_T23 L i))
      · refine Ev.congr (fun k => if_pos rfl) ?_
        have nx1 := ih (i + 1) (out ++ [(i : Int)]) (by omega) (by omega) (by simp; omega)
        rw [List.append_assoc] at nx1
        exact nx1
      · exact Ev.congr (fun k => if_neg (by simp)) (by simpa using nx)
def ndV (L : List PS) : List Int := if opnV L = true then ndl L L.length 0 else []
theorem opnV_ok {L : List PS} (ho : opnV L = true) : ∀ p ∈ L, okp p = true := by
  simp only [opnV, Bool.and_eq_true, List.all_eq_true] at ho
  exact ho.1.1
theorem spec_Needed_ev {L : List PS} (hl : L.length ≤ 1048576) : Ev (fun k => spec_Needed.f k L) (ndV L) := by
  refine Ev.of_bind (f := fun k t => if t = true then (spec_l7Needed.f k L).bind fun t => some t else some []) (spec_Open_ev (L := L) (by omega)) ?_
  unfold ndV
  by_cases c : opnV L = true
  · rw [if_pos c]
    refine Ev.congr (fun k => (if_pos c).trans (bind_id _)) ?_
    exact need_l0 (opnV_ok c) hl L.length 0 [] (by omega) (by omega) (by simp)
  · rw [if_neg c]
    exact ⟨0, fun k _ => if_neg c⟩
theorem impl_Needed_ev {L : List PS} (hl : L.length ≤ 1048576) : Ev (fun k => impl_Needed.f k L) (ndV L) := by
  refine Ev.of_bind (f := fun k t => if t = true then (impl_needed.f k L).bind fun t => some t else some []) (impl_Open_ev (L := L) (by omega)) ?_
  unfold ndV
  by_cases c : opnV L = true
  · rw [if_pos c]
    refine Ev.congr (fun k => (if_pos c).trans (bind_id _)) ?_
    exact needed_l0 (opnV_ok c) hl L.length 0 [] (by omega) (by omega) (by simp)
  · rw [if_neg c]
    exact ⟨0, fun k _ => if_neg c⟩
theorem ndV_len (L : List PS) : (ndV L).length ≤ L.length := by
  unfold ndV
  split
  · exact ndl_len _ _ _
  · exact Nat.zero_le _
def sq (n : Nat) : List Int := (List.range n).map (fun i : Nat => 1 + (i : Int))
theorem sq_len (n : Nat) : (sq n).length = n := by simp [sq]
theorem sq_succ (n : Nat) : sq (n + 1) = sq n ++ [1 + (n : Int)] := by simp [sq, List.range_succ]
theorem sq_rd {n j : Nat} (h : j < n) : rd (sq n) (j : Int) = 1 + (j : Int) := by
  simp [rd, sq, List.getD_eq_getElem?_getD, h]
theorem markInt_l0 {n : Nat} (hl : n ≤ 1048576) : ∀ (d j : Nat) (x : List Int), n - j = d → j ≤ n → x.length = n → x.take j = sq j → Ev (fun k => laws_markIntS.l0 k x (1 + (j : Int)) (j : Int)) (1 + (n : Int), sq n) := by
  intro d
  induction d with
  | zero =>
    intro j x hd hj hx ht
    have e : j = n := by omega
    subst e
    refine ⟨1, fun k hk => ?_⟩
    obtain ⟨k, rfl⟩ : ∃ m, k = m + 1 := ⟨k - 1, by omega⟩
    show laws_markIntS.l0 (k + 1) x (1 + (j : Int)) (j : Int) = _
    unfold laws_markIntS.l0
    rw [if_neg (by omega), ← ht, ← hx, List.take_length]
  | succ d ih =>
    intro j x hd hj hx ht
    refine Ev.succ (fun k => ?_) (ih (j + 1) (x.set j (1 + (j : Int))) (by omega) (by omega) (by simpa using hx) ?_)
    · show laws_markIntS.l0 (k + 1) x (1 + (j : Int)) (j : Int) = _
      conv => lhs; unfold laws_markIntS.l0
      rw [if_pos (by omega), if_pos (by omega), wrap_id (by omega) (by omega), wrap_id (by omega) (by omega), Int.toNat_natCast]
      congr 1 <;> omega
    · rw [sq_succ, List.take_succ_eq_append_getElem (by simp; omega), List.take_set_of_le (by omega), ht]
      simp
theorem markIntS_ev {x : List Int} (hl : x.length ≤ 1048576) : Ev (fun k => laws_markIntS.f k x 1) (1 + (x.length : Int), sq x.length) :=
  Ev.congr (f := fun k => laws_markIntS.l0 k x (1 + ((0 : Nat) : Int)) ((0 : Nat) : Int)) (fun k => rfl) (markInt_l0 hl x.length 0 x (by omega) (by omega) rfl (by simp [sq]))
theorem heldInt_l0 {n : Nat} (hl : n ≤ 1048576) : ∀ (d j : Nat), n - j = d → j ≤ n → Ev (fun k => laws_heldIntS.l0 k (sq n) (1 + (j : Int)) (j : Int)) (1 + (n : Int)) := by
  intro d
  induction d with
  | zero =>
    intro j hd hj
    have e : j = n := by omega
    subst e
    refine ⟨1, fun k hk => ?_⟩
    obtain ⟨k, rfl⟩ : ∃ m, k = m + 1 := ⟨k - 1, by omega⟩
    show laws_heldIntS.l0 (k + 1) (sq j) (1 + (j : Int)) (j : Int) = _
    unfold laws_heldIntS.l0
    rw [if_neg (by rw [sq_len]; omega)]
  | succ d ih =>
    intro j hd hj
    refine Ev.succ (fun k => ?_) (ih (j + 1) (by omega) (by omega))
    show laws_heldIntS.l0 (k + 1) (sq n) (1 + (j : Int)) (j : Int) = _
    conv => lhs; unfold laws_heldIntS.l0
    rw [if_pos (by rw [sq_len]; omega), if_pos (by omega), if_pos (sq_rd (by omega)), wrap_id (by omega) (by omega), wrap_id (by omega) (by omega)]
    congr 1 <;> omega
theorem heldIntS_ev {n : Nat} (hl : n ≤ 1048576) : Ev (fun k => laws_heldIntS.f k (sq n) 1) (1 + (n : Int)) :=
  Ev.congr (f := fun k => laws_heldIntS.l0 k (sq n) (1 + ((0 : Nat) : Int)) ((0 : Nat) : Int)) (fun k => rfl) (heldInt_l0 hl n 0 (by omega) (by omega))
def mk1 (x : List PS) (j : Nat) (a : Int) : List PS := x.set j ⟨a, (rd_T23 x j).f1, (rd_T23 x j).f2, (rd_T23 x j).f3⟩
def mk2 (x : List PS) (j : Nat) (a : Int) : List PS := x.set j ⟨(rd_T23 x j).f0, a, (rd_T23 x j).f2, (rd_T23 x j).f3⟩
def mk3 (x : List PS) (j : Nat) (a : Int) : List PS := x.set j ⟨(rd_T23 x j).f0, (rd_T23 x j).f1, a, (rd_T23 x j).f3⟩
def mk4 (x : List PS) (j : Nat) (a : Int) : List PS := x.set j ⟨(rd_T23 x j).f0, (rd_T23 x j).f1, (rd_T23 x j).f2, a⟩
theorem markPlane_l0 : ∀ (d j : Nat) (x : List PS) (a : Int), x.length - j = d → j ≤ x.length → x.length ≤ 1048576 → 0 ≤ a → a ≤ 1 + 4 * (j : Int) → ∃ v, Ev (fun k => laws_markPlaneS.l0 k x a (j : Int)) v ∧ 0 ≤ v.1 := by
  intro d
  induction d with
  | zero =>
    intro j x a hd hj hl h0 h1
    refine ⟨(a, x), ⟨1, fun k hk => ?_⟩, h0⟩
    obtain ⟨k, rfl⟩ : ∃ m, k = m + 1 := ⟨k - 1, by omega⟩
    show laws_markPlaneS.l0 (k + 1) x a (j : Int) = _
    unfold laws_markPlaneS.l0
    rw [if_neg (by omega)]
  | succ d ih =>
    intro j x a hd hj hl h0 h1
    have hj' : j < x.length := by omega
    have w1 : wrap64 (a + 1) = a + 1 := wrap_id (by omega) (by omega)
    have w2 : wrap64 (a + 1 + 1) = a + 1 + 1 := wrap_id (by omega) (by omega)
    have w3 : wrap64 (a + 1 + 1 + 1) = a + 1 + 1 + 1 := wrap_id (by omega) (by omega)
    have w4 : wrap64 (a + 1 + 1 + 1 + 1) = a + 1 + 1 + 1 + 1 := wrap_id (by omega) (by omega)
    have step : ∃ y : List PS, y.length = x.length ∧ ∀ k, laws_markPlaneS.l0 (k + 1) x a (j : Int) = laws_markPlaneS.l0 k y (a + 1 + 1 + 1 + 1) ((j + 1 : Nat) : Int) := by
      refine ⟨mk4 (mk3 (mk2 (mk1 x j a) j (a + 1)) j (a + 1 + 1)) j (a + 1 + 1 + 1), by simp [mk1, mk2, mk3, mk4], fun k => ?_⟩
      conv => lhs; unfold laws_markPlaneS.l0
      rw [if_pos (by omega), if_pos (by omega)]
      simp only [Option.bind_some, w1, w2, w3, w4, wr_nat hj' hl]
      rfl
    obtain ⟨y, hy, hs⟩ := step
    obtain ⟨v, e, hv⟩ := ih (j + 1) y (a + 1 + 1 + 1 + 1) (by omega) (by omega) (by omega) (by omega) (by omega)
    exact ⟨v, Ev.succ hs e, hv⟩
theorem markPlaneS_ev {x : List PS} (hl : x.length ≤ 1048576) : ∃ v, Ev (fun k => laws_markPlaneS.f k x 1) v ∧ 0 ≤ v.1 := by
  obtain ⟨v, e, hv⟩ := markPlane_l0 x.length 0 x 1 (by omega) (by omega) hl (by omega) (by omega)
  exact ⟨v, Ev.congr (fun k => rfl) e, hv⟩
theorem FnExactNeeded_pure (l : List S31) (hm : l.length ≤ 9223372036854775807) : ∃ k, laws_FnExactNeeded.f k l = some true := by
  have hs := szPlaneS_f (n := 1048576) hm (by omega) (by omega)
  by_cases hl : l.length ≤ 1048576
  · have hl' : (l.map cv).length ≤ 1048576 := by simpa using hl
    have hn : (ndV (l.map cv)).length ≤ 1048576 := Nat.le_trans (ndV_len _) hl'
    obtain ⟨v, e5, hv⟩ := markPlaneS_ev hl'
    obtain ⟨K1, h1⟩ := Ev.and (spec_Needed_ev hl') (impl_Needed_ev hl')
    obtain ⟨K2, h2⟩ := Ev.and (toPlaneS_ev hl) (eqPlaneS_self hl')
    obtain ⟨K3, h3⟩ := Ev.and e5 (eqIntS_self hn)
    obtain ⟨K4, h4⟩ := Ev.and (markIntS_ev hn) (heldIntS_ev hn)
    obtain ⟨g1, g2⟩ := h1 (K1 + K2 + K3 + K4) (by omega)
    obtain ⟨g3, g4⟩ := h2 (K1 + K2 + K3 + K4) (by omega)
    obtain ⟨g5, g6⟩ := h3 (K1 + K2 + K3 + K4) (by omega)
    obtain ⟨g7, g8⟩ := h4 (K1 + K2 + K3 + K4) (by omega)
    obtain ⟨a1, a2⟩ := h1 (K1 + K2 + K3 + K4 + 1) (by omega)
    obtain ⟨a3, a4⟩ := h2 (K1 + K2 + K3 + K4 + 1) (by omega)
    obtain ⟨a5, a6⟩ := h3 (K1 + K2 + K3 + K4 + 1) (by omega)
    refine ⟨K1 + K2 + K3 + K4 + 1, ?_⟩
    generalize K1 + K2 + K3 + K4 = K at *
    rw [if_pos (by omega)] at hs
    simp only [laws_FnExactNeeded.f, hs, Option.bind_some]
    rw [if_neg (by omega)]
    simp only [a1, a2, a3, a4, a5, a6, Option.bind_some, if_true]
    rw [if_neg (by omega)]
    simp only [laws_FnExactNeeded.j0, Bool.not_true, Bool.false_eq_true, if_false, g1, g2, g3, g4, g5, g6, g7, g8, Option.bind_some, if_true]
    rw [if_neg (by omega), if_neg (by omega)]
  · rw [if_neg (by omega)] at hs
    refine ⟨0, ?_⟩
    simp [laws_FnExactNeeded.f, hs]
end Go.Proofs.Ytndedincanmaeaa.Pure
