/- The law FnExactRank, plain: no program in sight but for the printed functions. -/
import Derived.Test.YtmcjkdbegkdhoaaPrint0
import Derived.Test.YtmcjkdbegkdhoaaPrint4
import Derived.Test.YtmcjkdbegkdhoaaPrint7
import Derived.Test.YtmcjkdbegkdhoaaPrint8
import Derived.Test.YtmcjkdbegkdhoaaPrint9
import Derived.Test.YtmcjkdbegkdhoaaPrint10
import Derived.Test.YtmcjkdbegkdhoaaPrint11
import Derived.Test.YtmcjkdbegkdhoaaPrint25
import Derived.Test.YtmcjkdbegkdhoaaPrint26
import Derived.Test.YtmcjkdbegkdhoaaPrint30
import Derived.Test.YtmcjkdbegkdhoaaPrint31
import Derived.Test.YtmcjkdbegkdhoaaPrint34
import Derived.Test.YtmcjkdbegkdhoaaPrint55
import Derived.Test.YtmcjkdbegkdhoaaPrint56
import Derived.Test.YtmcjkdbegkdhoaaPrint57
import Derived.Test.YtmcjkdbegkdhoaaPrint58
import Derived.Test.YtmcjkdbegkdhoaaPrint59
namespace Go.Proofs.Ytmcjkdbegkdhoaa.Pure
open Go.RowKit Go.Proofs.Ytmcjkdbegkdhoaa.Print Go.Proofs.YtmcjkdbegkdhoaaW.PrintWords Go.Proofs.YtmcjkdbegkdhoaaW.PrintLast Go.Proofs.YtmcjkdbegkdhoaaW.PrintMore
set_option linter.unusedSimpArgs false
set_option linter.unusedVariables false
theorem wrap_id {x : Int} (h0 : -9223372036854775808 ≤ x) (h1 : x ≤ 9223372036854775807) : wrap64 x = x := by
  unfold wrap64; omega
theorem Ev.and {α β : Type} {g : Nat → Option α} {f : Nat → Option β} {a : α} {b : β} (h : Ev g a) (k : Ev f b) : ∃ K, ∀ n, K ≤ n → g n = some a ∧ f n = some b := by
  obtain ⟨K1, h1⟩ := h
  obtain ⟨K2, h2⟩ := k
  exact ⟨K1 + K2, fun n hn => ⟨h1 n (by omega), h2 n (by omega)⟩⟩
theorem l3Abs_f {a : Int} (h : -9223372036854775807 ≤ a) (h1 : a ≤ 9223372036854775807) : spec_l3Abs.f a = some (a.natAbs : Int) := by
  unfold spec_l3Abs.f
  by_cases c : a < 0
  · rw [if_pos c, wrap_id (by omega) (by omega)]; congr 1; omega
  · rw [if_neg c]; congr 1; omega
theorem l3Gcd_l0 : ∀ (b a k : Nat), b < k → spec_l3Gcd.l0 k (a : Int) (b : Int) = some ((Nat.gcd a b : Nat) : Int) := by
  intro b
  induction b using Nat.strongRecOn with
  | _ b ih =>
    intro a k hk
    obtain ⟨k, rfl⟩ : ∃ m, k = m + 1 := ⟨k - 1, by omega⟩
    unfold spec_l3Gcd.l0
    by_cases c : b = 0
    · subst c; rw [if_neg (by omega)]; simp
    · rw [if_pos (by omega), if_neg (by omega), show Int.tmod (a : Int) (b : Int) = ((a % b : Nat) : Int) from rfl]
      have hlt : a % b < b := Nat.mod_lt _ (by omega)
      rw [ih (a % b) hlt b k (by omega)]
      congr 2
      rw [Nat.gcd_comm a b, Nat.gcd_rec b a]
      exact Nat.gcd_comm _ _
theorem l3Gcd_ev {a b : Int} (h : -9223372036854775807 ≤ a) (h1 : a ≤ 9223372036854775807) (h2 : -9223372036854775807 ≤ b) (h3 : b ≤ 9223372036854775807) :
    Ev (fun k => spec_l3Gcd.f k a b) ((Nat.gcd a.natAbs b.natAbs : Nat) : Int) := by
  refine ⟨b.natAbs + 1, fun k hk => ?_⟩
  simp only [spec_l3Gcd.f, l3Abs_f h h1, l3Abs_f h2 h3, Option.bind_some]
  exact l3Gcd_l0 _ _ _ (by omega)
theorem mx_abs {x : Int} (h : -9223372036854775807 ≤ x) (h1 : x ≤ 9223372036854775807) : mx x (wrap64 (-x)) = (x.natAbs : Int) := by
  rw [wrap_id (by omega) (by omega)]; unfold mx; split <;> omega
theorem divisor_l1 {xs : List Int} {len i : Int} {r : Int} : ∀ (n g : Nat), Ev (fun k => impl_divisor.l0 k ((Nat.gcd g n : Nat) : Int) xs len (wrap64 (i + 1))) r → Ev (fun k => impl_divisor.l1 k (g : Int) (n : Int) xs len i) r := by
  intro n
  induction n using Nat.strongRecOn with
  | _ n ih =>
    intro g h
    by_cases c : n = 0
    · subst c
      refine Ev.step (fun k => ?_) h
      simp [impl_divisor.l1]
    · refine Ev.step (f := fun k => impl_divisor.l1 k (n : Int) ((g % n : Nat) : Int) xs len i) (fun k => ?_) (ih (g % n) (Nat.mod_lt _ (by omega)) n ?_)
      · simp only [impl_divisor.l1]; rw [if_neg (by omega)]; rfl
      · have e : Nat.gcd n (g % n) = Nat.gcd g n := by rw [Nat.gcd_comm g n, Nat.gcd_rec n g]; exact Nat.gcd_comm _ _
        rw [e]; exact h
theorem divisor_l0 {xs : List Int} {len i : Int} {r : Int} {g : Nat} (h0 : 0 ≤ i) (h1 : i < len) (h2 : i < (xs.length : Int)) (b0 : -9223372036854775807 ≤ rd xs i) (b1 : rd xs i ≤ 9223372036854775807)
    (h : Ev (fun k => impl_divisor.l0 k ((Nat.gcd g (rd xs i).natAbs : Nat) : Int) xs len (wrap64 (i + 1))) r) : Ev (fun k => impl_divisor.l0 k (g : Int) xs len i) r := by
  refine Ev.step (f := fun k => impl_divisor.l1 k (g : Int) ((rd xs i).natAbs : Int) xs len i) (fun k => ?_) (divisor_l1 _ _ h)
  simp only [impl_divisor.l0]; rw [if_pos h1, if_pos h0, if_pos h2, mx_abs b0 b1]
theorem divisor4_ev {a b c d : Int} (ha : -9223372036854775807 ≤ a ∧ a ≤ 9223372036854775807) (hb : -9223372036854775807 ≤ b ∧ b ≤ 9223372036854775807) (hc : -9223372036854775807 ≤ c ∧ c ≤ 9223372036854775807) (hd : -9223372036854775807 ≤ d ∧ d ≤ 9223372036854775807) :
    Ev (fun k => impl_divisor.f k [a, b, c, d]) ((Nat.gcd (Nat.gcd a.natAbs b.natAbs) (Nat.gcd c.natAbs d.natAbs) : Nat) : Int) := by
  have e : Nat.gcd (Nat.gcd a.natAbs b.natAbs) (Nat.gcd c.natAbs d.natAbs) = Nat.gcd (Nat.gcd (Nat.gcd (Nat.gcd 0 a.natAbs) b.natAbs) c.natAbs) d.natAbs := by
    rw [Nat.gcd_zero_left, Nat.gcd_assoc (Nat.gcd a.natAbs b.natAbs)]
  rw [e]
  refine Ev.congr (f := fun k => impl_divisor.l0 k ((0 : Nat) : Int) [a, b, c, d] 4 0) (fun k => rfl) ?_
  refine divisor_l0 (by omega) (by omega) (by simp) (by simpa [rd] using ha.1) (by simpa [rd] using ha.2) ?_
  rw [show wrap64 (0 + 1) = 1 from wrap_id (by omega) (by omega)]
  refine divisor_l0 (by omega) (by omega) (by simp) (by simpa [rd] using hb.1) (by simpa [rd] using hb.2) ?_
  rw [show wrap64 (1 + 1) = 2 from wrap_id (by omega) (by omega)]
  refine divisor_l0 (by omega) (by omega) (by simp) (by simpa [rd] using hc.1) (by simpa [rd] using hc.2) ?_
  rw [show wrap64 (2 + 1) = 3 from wrap_id (by omega) (by omega)]
  refine divisor_l0 (by omega) (by omega) (by simp) (by simpa [rd] using hd.1) (by simpa [rd] using hd.2) ?_
  rw [show wrap64 (3 + 1) = 4 from wrap_id (by omega) (by omega)]
  refine ⟨1, fun k hk => ?_⟩
  obtain ⟨k, rfl⟩ : ∃ m, k = m + 1 := ⟨k - 1, by omega⟩
  simp [impl_divisor.l0, rd]
def PlOk (a b c d : Int) : Prop := (-500 ≤ a ∧ a ≤ 500) ∧ (-500 ≤ b ∧ b ≤ 500) ∧ (-500 ≤ c ∧ c ≤ 500) ∧ (-500 ≤ d ∧ d ≤ 500) ∧ (a ≠ 0 ∨ b ≠ 0 ∨ c ≠ 0) ∧ Nat.gcd (Nat.gcd a.natAbs b.natAbs) (Nat.gcd c.natAbs d.natAbs) = 1
instance (a b c d : Int) : Decidable (PlOk a b c d) := by unfold PlOk; infer_instance
def plOk (a b c d : Int) : Bool := decide (PlOk a b c d)
theorem plOk_iff {a b c d : Int} : plOk a b c d = true ↔ PlOk a b c d := by simp [plOk]
theorem l1In_f (a b c : Int) : spec_l1In.f a b c = some (decide (b ≤ a ∧ a ≤ c)) := by
  unfold spec_l1In.f
  split
  · rename_i h; exact congrArg some (decide_eq_decide.mpr (by omega))
  · rename_i h; exact congrArg some (decide_eq_false (by omega)).symm
theorem inRange_f (a b c : Int) : impl_inRange.f a b c = some (decide (b ≤ a ∧ a ≤ c)) := by
  unfold impl_inRange.f
  split
  · rename_i h; exact congrArg some (decide_eq_decide.mpr (by omega))
  · rename_i h; exact congrArg some (decide_eq_false (by omega)).symm
theorem plOk_in {a b c d : Int} (hr : (-500 ≤ a ∧ a ≤ 500) ∧ (-500 ≤ b ∧ b ≤ 500) ∧ (-500 ≤ c ∧ c ≤ 500) ∧ (-500 ≤ d ∧ d ≤ 500)) :
    plOk a b c d = (decide (a ≠ 0 ∨ b ≠ 0 ∨ c ≠ 0) && (((Nat.gcd (Nat.gcd a.natAbs b.natAbs) (Nat.gcd c.natAbs d.natAbs) : Nat) : Int) == 1)) := by
  obtain ⟨h1, h2, h3, h4⟩ := hr
  have e : ∀ n : Nat, (((n : Int) == 1) : Bool) = decide (n = 1) := by intro n; by_cases h : n = 1 <;> simp [h]; omega
  rw [e]
  simp only [plOk, PlOk, h1, h2, h3, h4, and_self, true_and, Bool.decide_and]
theorem spec_PlaneOk_ev (a b c d : Int) : Ev (fun k => spec_PlaneOk.f k a b c d) (plOk a b c d) := by
  by_cases hr : (-500 ≤ a ∧ a ≤ 500) ∧ (-500 ≤ b ∧ b ≤ 500) ∧ (-500 ≤ c ∧ c ≤ 500) ∧ (-500 ≤ d ∧ d ≤ 500)
  · have ⟨ha, hb, hc, hd⟩ := hr
    obtain ⟨K1, h1⟩ := l3Gcd_ev (a := a) (b := b) (by omega) (by omega) (by omega) (by omega)
    obtain ⟨K2, h2⟩ := l3Gcd_ev (a := c) (b := d) (by omega) (by omega) (by omega) (by omega)
    have la : Nat.gcd a.natAbs b.natAbs ≤ 500 := by
      by_cases z : a = 0
      · subst z; rw [Int.natAbs_zero, Nat.gcd_zero_left]; omega
      · exact Nat.le_trans (Nat.gcd_le_left _ (by omega)) (by omega)
    have lc : Nat.gcd c.natAbs d.natAbs ≤ 500 := by
      by_cases z : c = 0
      · subst z; rw [Int.natAbs_zero, Nat.gcd_zero_left]; omega
      · exact Nat.le_trans (Nat.gcd_le_left _ (by omega)) (by omega)
    obtain ⟨K3, h3⟩ := l3Gcd_ev (a := ((Nat.gcd a.natAbs b.natAbs : Nat) : Int)) (b := ((Nat.gcd c.natAbs d.natAbs : Nat) : Int)) (by omega) (by omega) (by omega) (by omega)
    refine ⟨K1 + K2 + K3, fun k hk => ?_⟩
    have g1 : spec_l3Gcd.f k a b = _ := h1 k (by omega)
    have g2 : spec_l3Gcd.f k c d = _ := h2 k (by omega)
    have g3 : spec_l3Gcd.f k ((Nat.gcd a.natAbs b.natAbs : Nat) : Int) ((Nat.gcd c.natAbs d.natAbs : Nat) : Int) = _ := h3 k (by omega)
    simp only [Int.natAbs_natCast] at g3
    simp only [spec_PlaneOk.f, spec_l3In.f, l1In_f, Option.bind_some, ha, hb, hc, hd, and_self, decide_true, if_true, g1, g2, g3, plOk_in hr]
    by_cases za : a = 0 <;> by_cases zb : b = 0 <;> by_cases zc : c = 0 <;> simp [za, zb, zc]
  · refine ⟨0, fun k _ => ?_⟩
    have hz : plOk a b c d = false := by simp only [plOk, decide_eq_false_iff_not]; intro h; exact hr ⟨h.1, h.2.1, h.2.2.1, h.2.2.2.1⟩
    rw [hz]
    simp only [spec_PlaneOk.f, spec_l3In.f, l1In_f, Option.bind_some]
    by_cases ca : (-500 ≤ a ∧ a ≤ 500) <;> by_cases cb : (-500 ≤ b ∧ b ≤ 500) <;> by_cases cc : (-500 ≤ c ∧ c ≤ 500) <;> by_cases cd : (-500 ≤ d ∧ d ≤ 500) <;> first | (simp [ca, cb, cc, cd]; done) | exact absurd ⟨ca, cb, cc, cd⟩ hr
theorem impl_PlaneOk_ev (a b c d : Int) : Ev (fun k => impl_PlaneOk.f k a b c d) (plOk a b c d) := by
  by_cases hr : (-500 ≤ a ∧ a ≤ 500) ∧ (-500 ≤ b ∧ b ≤ 500) ∧ (-500 ≤ c ∧ c ≤ 500) ∧ (-500 ≤ d ∧ d ≤ 500)
  · have ⟨ha, hb, hc, hd⟩ := hr
    obtain ⟨K1, h1⟩ := divisor4_ev (a := a) (b := b) (c := c) (d := d) (by omega) (by omega) (by omega) (by omega)
    refine ⟨K1 + 1, fun k hk => ?_⟩
    obtain ⟨k, rfl⟩ : ∃ m, k = m + 1 := ⟨k - 1, by omega⟩
    have g1 : impl_divisor.f k [a, b, c, d] = _ := h1 k (by omega)
    simp only [impl_PlaneOk.f, impl_PlaneOk.j0, impl_isCoef.f, inRange_f, Option.bind_some, ha, hb, hc, hd, and_self, decide_true, if_true, Bool.not_true, Bool.false_eq_true, if_false, g1, plOk_in hr]
    by_cases za : a = 0 <;> by_cases zb : b = 0 <;> by_cases zc : c = 0 <;> simp [za, zb, zc]
  · refine ⟨1, fun k hk => ?_⟩
    obtain ⟨k, rfl⟩ : ∃ m, k = m + 1 := ⟨k - 1, by omega⟩
    have hz : plOk a b c d = false := by simp only [plOk, decide_eq_false_iff_not]; intro h; exact hr ⟨h.1, h.2.1, h.2.2.1, h.2.2.2.1⟩
    rw [hz]
    simp only [impl_PlaneOk.f, impl_PlaneOk.j0, impl_isCoef.f, inRange_f, Option.bind_some]
    by_cases ca : (-500 ≤ a ∧ a ≤ 500) <;> by_cases cb : (-500 ≤ b ∧ b ≤ 500) <;> by_cases cc : (-500 ≤ c ∧ c ≤ 500) <;> by_cases cd : (-500 ≤ d ∧ d ≤ 500) <;> first | (simp [ca, cb, cc, cd]; done) | exact absurd ⟨ca, cb, cc, cd⟩ hr
theorem wr_add_l (a b : Int) : wrap64 (wrap64 a + b) = wrap64 (a + b) := by unfold wrap64; omega
theorem wr_add_r (a b : Int) : wrap64 (a + wrap64 b) = wrap64 (a + b) := by unfold wrap64; omega
theorem wr_sub_l (a b : Int) : wrap64 (wrap64 a - b) = wrap64 (a - b) := by unfold wrap64; omega
theorem wr_sub_r (a b : Int) : wrap64 (a - wrap64 b) = wrap64 (a - b) := by unfold wrap64; omega
theorem wr_form (a : Int) : ∃ q : Int, wrap64 a = a - 18446744073709551616 * q := ⟨(a + 9223372036854775808) / 18446744073709551616, by unfold wrap64; omega⟩
theorem wr_shift (a q : Int) : wrap64 (a - 18446744073709551616 * q) = wrap64 a := by unfold wrap64; omega
theorem wr_mul_l (a b : Int) : wrap64 (wrap64 a * b) = wrap64 (a * b) := by
  obtain ⟨q, h⟩ := wr_form a
  rw [h, Int.sub_mul, Int.mul_assoc, wr_shift]
theorem wr_mul_r (a b : Int) : wrap64 (a * wrap64 b) = wrap64 (a * b) := by rw [Int.mul_comm, wr_mul_l, Int.mul_comm]
theorem mul_bd {x y X Y : Int} (hx : -X ≤ x ∧ x ≤ X) (hy : -Y ≤ y ∧ y ≤ Y) : -(X * Y) ≤ x * y ∧ x * y ≤ X * Y := by
  have hX : 0 ≤ X := by omega
  have hY : 0 ≤ Y := by omega
  have h1 : x.natAbs * y.natAbs ≤ X.natAbs * Y.natAbs := Nat.mul_le_mul (by omega) (by omega)
  have h2 : (x * y).natAbs = x.natAbs * y.natAbs := Int.natAbs_mul x y
  have h3 : (X * Y).natAbs = X.natAbs * Y.natAbs := Int.natAbs_mul X Y
  have h4 : 0 ≤ X * Y := Int.mul_nonneg hX hY
  omega
theorem eqPlane_self (a b c d : Int) : laws_eqPlane.f a b c d a b c d = some true := by simp [laws_eqPlane.f]
def tk (a b c d : Int) : Int × Int × Int × Int := if plOk a b c d = true then (a, b, c, d) else (0, 0, 0, 0)
theorem taken_ev (a b c d : Int) : Ev (fun k => impl_taken.f k a b c d) (tk a b c d) := by
  obtain ⟨K, h⟩ := impl_PlaneOk_ev a b c d
  refine ⟨K, fun k hk => ?_⟩
  have h1 := h k hk
  simp only at h1
  simp only [impl_taken.f, h1, Option.bind_some, tk]
  split <;> rfl
def d3 (a b c e f g i j l : Int) : Int := a * (f * l - g * j) + b * (g * i - e * l) + c * (e * j - f * i)
theorem l4Det3_f (a b c d e f g h i j l m : Int) : spec_l4Det3.f a b c d e f g h i j l m = some (wrap64 (d3 a b c e f g i j l)) := by
  simp only [spec_l4Det3.f, spec_l4Cross.f, Option.bind_some, d3]
  simp only [wr_add_l, wr_add_r, wr_sub_l, wr_sub_r, wr_mul_r, wr_mul_l]
def cr (a b c e f g : Int) : Int × Int × Int := (wrap64 (b * g - c * f), wrap64 (c * e - a * g), wrap64 (a * f - b * e))
theorem l4Cross_f (a b c d e f g h : Int) : spec_l4Cross.f a b c d e f g h = some (cr a b c e f g) := by
  simp only [spec_l4Cross.f, cr, wr_sub_l, wr_sub_r]
theorem crossOf_f (a b c e f g : Int) : impl_crossOf.f a b c e f g = some (cr a b c e f g) := by
  simp only [impl_crossOf.f, cr, wr_sub_l, wr_sub_r]
theorem det_f (a b c e f g i j l : Int) : impl_det.f a b c e f g i j l = some (wrap64 (d3 a b c e f g i j l)) := by
  simp only [impl_det.f, impl_crossOf.f, impl_dot.f, Option.bind_some, d3]
  simp only [wr_add_l, wr_add_r, wr_sub_l, wr_sub_r, wr_mul_r, wr_mul_l]
theorem d3_bd {a b c e f g i j l : Int} (ha : -500 ≤ a ∧ a ≤ 500) (hb : -500 ≤ b ∧ b ≤ 500) (hc : -500 ≤ c ∧ c ≤ 500) (he : -500 ≤ e ∧ e ≤ 500) (hf : -500 ≤ f ∧ f ≤ 500) (hg : -500 ≤ g ∧ g ≤ 500)
    (hi : -500 ≤ i ∧ i ≤ 500) (hj : -500 ≤ j ∧ j ≤ 500) (hl : -500 ≤ l ∧ l ≤ 500) : -750000000 ≤ d3 a b c e f g i j l ∧ d3 a b c e f g i j l ≤ 750000000 := by
  have m1 := mul_bd hf hl
  have m2 := mul_bd hg hj
  have m3 := mul_bd hg hi
  have m4 := mul_bd he hl
  have m5 := mul_bd he hj
  have m6 := mul_bd hf hi
  have n1 := mul_bd (x := a) (y := f * l - g * j) (X := 500) (Y := 500000) ha (by omega)
  have n2 := mul_bd (x := b) (y := g * i - e * l) (X := 500) (Y := 500000) hb (by omega)
  have n3 := mul_bd (x := c) (y := e * j - f * i) (X := 500) (Y := 500000) hc (by omega)
  unfold d3
  omega
theorem set_take {α : Type} (v : α) : ∀ (acc : List α) (j : Nat), j < acc.length → (acc.set j v).take (j + 1) = acc.take j ++ [v]
  | [], j, h => by simp at h
  | x :: xs, 0, _ => by simp
  | x :: xs, j + 1, h => by
    rw [List.set_cons_succ, List.take_succ_cons, set_take v xs j (by simpa using h), List.take_succ_cons, List.cons_append]
abbrev V3 := Int × Int × Int
def cx (p q : V3) : V3 := (p.2.1 * q.2.2 - p.2.2 * q.2.1, p.2.2 * q.1 - p.1 * q.2.2, p.1 * q.2.1 - p.2.1 * q.1)
def dt (p q r : V3) : Int := p.1 * (q.2.1 * r.2.2 - q.2.2 * r.2.1) + p.2.1 * (q.2.2 * r.1 - q.1 * r.2.2) + p.2.2 * (q.1 * r.2.1 - q.2.1 * r.1)
def z3 : V3 := (0, 0, 0)
theorem cx_zero {p q : V3} : cx p q = z3 ↔ p.2.1 * q.2.2 = p.2.2 * q.2.1 ∧ p.2.2 * q.1 = p.1 * q.2.2 ∧ p.1 * q.2.1 = p.2.1 * q.1 := by
  simp only [cx, z3, Prod.mk.injEq]; omega
theorem dt_of_cx {p q : V3} (h : cx p q = z3) (r : V3) : dt p q r = 0 := by
  obtain ⟨h1, h2, h3⟩ := cx_zero.mp h
  obtain ⟨a, b, c⟩ := p; obtain ⟨d, e, f⟩ := q; obtain ⟨g, i, j⟩ := r
  simp only [dt] at *
  grind
theorem dt_self_r (p q : V3) : dt p q q = 0 := by simp only [dt]; grind
theorem dt_self_l (p q : V3) : dt p p q = 0 := by simp only [dt]; grind
theorem dt_self_o (p q : V3) : dt p q p = 0 := by simp only [dt]; grind
theorem dt_swap (p q r : V3) : dt p r q = -dt p q r := by simp only [dt]; grind
theorem dt_rot (p q r : V3) : dt q r p = dt p q r := by simp only [dt]; grind
theorem cx_swap {p q : V3} : cx q p = z3 ↔ cx p q = z3 := by rw [cx_zero, cx_zero]; constructor <;> (rintro ⟨h1, h2, h3⟩; refine ⟨?_, ?_, ?_⟩ <;> grind)
theorem cx_self (p : V3) : cx p p = z3 := by rw [cx_zero]; refine ⟨?_, ?_, ?_⟩ <;> grind
theorem cx_z_l (q : V3) : cx z3 q = z3 := by simp [cx, z3]
theorem cx_trans {r a b : V3} (hr : r ≠ z3) (ha : cx r a = z3) (hb : cx r b = z3) : cx a b = z3 := by
  obtain ⟨x, y, z⟩ := r; obtain ⟨a1, a2, a3⟩ := a; obtain ⟨b1, b2, b3⟩ := b
  rw [cx_zero] at ha hb ⊢
  simp only at ha hb ⊢
  obtain ⟨h1, h2, h3⟩ := ha
  obtain ⟨g1, g2, g3⟩ := hb
  have hz : x ≠ 0 ∨ y ≠ 0 ∨ z ≠ 0 := by
    by_cases hx : x = 0 <;> by_cases hy : y = 0 <;> by_cases hz : z = 0 <;> simp_all [z3]
  have key : ∀ t : Int, t ≠ 0 → ∀ u v : Int, t * u = t * v → u = v := fun t ht u v h => Int.eq_of_mul_eq_mul_left ht h
  rcases hz with h | h | h
  · refine ⟨key x h _ _ ?_, key x h _ _ ?_, key x h _ _ ?_⟩ <;> grind
  · refine ⟨key y h _ _ ?_, key y h _ _ ?_, key y h _ _ ?_⟩ <;> grind
  · refine ⟨key z h _ _ ?_, key z h _ _ ?_, key z h _ _ ?_⟩ <;> grind
theorem dt_plane {n a b c : V3} (hn : n ≠ z3) (ha : n.1 * a.1 + n.2.1 * a.2.1 + n.2.2 * a.2.2 = 0) (hb : n.1 * b.1 + n.2.1 * b.2.1 + n.2.2 * b.2.2 = 0) (hc : n.1 * c.1 + n.2.1 * c.2.1 + n.2.2 * c.2.2 = 0) : dt a b c = 0 := by
  obtain ⟨x, y, z⟩ := n; obtain ⟨a1, a2, a3⟩ := a; obtain ⟨b1, b2, b3⟩ := b; obtain ⟨c1, c2, c3⟩ := c
  simp only [dt] at *
  have hz : x ≠ 0 ∨ y ≠ 0 ∨ z ≠ 0 := by
    by_cases hx : x = 0 <;> by_cases hy : y = 0 <;> by_cases hz : z = 0 <;> simp_all [z3]
  have key : ∀ t : Int, t ≠ 0 → ∀ u : Int, t * u = 0 → u = 0 := fun t ht u h => (Int.mul_eq_zero.mp h).resolve_left ht
  rcases hz with h | h | h
  · refine key x h _ ?_
    have e : x * (a1 * (b2 * c3 - b3 * c2) + a2 * (b3 * c1 - b1 * c3) + a3 * (b1 * c2 - b2 * c1)) = (x * a1 + y * a2 + z * a3) * (b2 * c3 - b3 * c2) + (x * b1 + y * b2 + z * b3) * (c2 * a3 - c3 * a2) + (x * c1 + y * c2 + z * c3) * (a2 * b3 - a3 * b2) := by grind
    rw [e, ha, hb, hc]; simp
  · refine key y h _ ?_
    have e : y * (a1 * (b2 * c3 - b3 * c2) + a2 * (b3 * c1 - b1 * c3) + a3 * (b1 * c2 - b2 * c1)) = (x * a1 + y * a2 + z * a3) * (b3 * c1 - b1 * c3) + (x * b1 + y * b2 + z * b3) * (c3 * a1 - c1 * a3) + (x * c1 + y * c2 + z * c3) * (a3 * b1 - a1 * b3) := by grind
    rw [e, ha, hb, hc]; simp
  · refine key z h _ ?_
    have e : z * (a1 * (b2 * c3 - b3 * c2) + a2 * (b3 * c1 - b1 * c3) + a3 * (b1 * c2 - b2 * c1)) = (x * a1 + y * a2 + z * a3) * (b1 * c2 - b2 * c1) + (x * b1 + y * b2 + z * b3) * (c1 * a2 - c2 * a1) + (x * c1 + y * c2 + z * c3) * (a1 * b2 - a2 * b1) := by grind
    rw [e, ha, hb, hc]; simp
theorem dt_cx (p q r : V3) : dt p q r = (cx p q).1 * r.1 + (cx p q).2.1 * r.2.1 + (cx p q).2.2 * r.2.2 := by simp only [dt, cx]; grind
theorem dt_span {p q a b c : V3} (h : cx p q ≠ z3) (ha : dt p q a = 0) (hb : dt p q b = 0) (hc : dt p q c = 0) : dt a b c = 0 := by
  rw [dt_cx] at ha hb hc
  exact dt_plane h ha hb hc
def RankIs (L : List V3) (v : Int) : Prop :=
  (v = 3 ∧ ∃ p ∈ L, ∃ q ∈ L, ∃ r ∈ L, dt p q r ≠ 0) ∨ (v = 2 ∧ (∀ p ∈ L, ∀ q ∈ L, ∀ r ∈ L, dt p q r = 0) ∧ ∃ p ∈ L, ∃ q ∈ L, cx p q ≠ z3) ∨
  (v = 1 ∧ (∀ p ∈ L, ∀ q ∈ L, cx p q = z3) ∧ ∃ p ∈ L, p ≠ z3) ∨ (v = 0 ∧ ∀ p ∈ L, p = z3)
theorem RankIs.unique {L : List V3} {v u : Int} (h : RankIs L v) (g : RankIs L u) : v = u := by
  rcases h with ⟨rfl, p, hp, q, hq, r, hr, h⟩ | ⟨rfl, h1, p, hp, q, hq, h2⟩ | ⟨rfl, h1, p, hp, h2⟩ | ⟨rfl, h⟩ <;> rcases g with ⟨rfl, p', hp', q', hq', r', hr', g⟩ | ⟨rfl, g1, p', hp', q', hq', g2⟩ | ⟨rfl, g1, p', hp', g2⟩ | ⟨rfl, g⟩ <;> first
    | rfl
    | exact absurd (g1 p hp q hq r hr) h
    | exact absurd (dt_of_cx (g1 p hp q hq) r) h
    | (have := g p hp; subst this; exact absurd (dt_of_cx (cx_z_l q) r) h)
    | exact absurd (h1 p' hp' q' hq' r' hr') g
    | exact absurd (g1 p hp q hq) h2
    | (have := g p hp; subst this; exact absurd (cx_z_l q) h2)
    | exact absurd (dt_of_cx (h1 p' hp' q' hq') r') g
    | exact absurd (h1 p' hp' q' hq') g2
    | exact absurd (g p hp) h2
    | (have := h p' hp'; subst this; exact absurd (dt_of_cx (cx_z_l q') r') g)
    | (have := h p' hp'; subst this; exact absurd (cx_z_l q') g2)
    | exact absurd (h p' hp') g2
theorem RankIs.strip {L M : List V3} {v : Int} (h1 : ∀ p ∈ L, p ∈ M) (h2 : ∀ p ∈ M, p ≠ z3 → p ∈ L) (h : RankIs L v) : RankIs M v := by
  have zt1 : ∀ q r, dt z3 q r = 0 := fun q r => dt_of_cx (cx_z_l q) r
  have zt2 : ∀ p r, dt p z3 r = 0 := fun p r => dt_of_cx (cx_swap.mp (cx_z_l p)) r
  have zt3 : ∀ p q, dt p q z3 = 0 := fun p q => by rw [← dt_rot, ← dt_rot]; exact zt1 _ _
  rcases h with ⟨rfl, p, hp, q, hq, r, hr, h⟩ | ⟨rfl, g1, p, hp, q, hq, g2⟩ | ⟨rfl, g1, p, hp, g2⟩ | ⟨rfl, h⟩
  · exact .inl ⟨rfl, p, h1 p hp, q, h1 q hq, r, h1 r hr, h⟩
  · refine .inr (.inl ⟨rfl, fun p hp q hq r hr => ?_, p, h1 p hp, q, h1 q hq, g2⟩)
    by_cases ep : p = z3
    · subst ep; exact zt1 _ _
    by_cases eq : q = z3
    · subst eq; exact zt2 _ _
    by_cases er : r = z3
    · subst er; exact zt3 _ _
    exact g1 p (h2 p hp ep) q (h2 q hq eq) r (h2 r hr er)
  · refine .inr (.inr (.inl ⟨rfl, fun p hp q hq => ?_, p, h1 p hp, g2⟩))
    by_cases ep : p = z3
    · subst ep; exact cx_z_l _
    by_cases eq : q = z3
    · subst eq; exact cx_swap.mp (cx_z_l _)
    exact g1 p (h2 p hp ep) q (h2 q hq eq)
  · refine .inr (.inr (.inr ⟨rfl, fun p hp => ?_⟩))
    by_cases ep : p = z3
    · exact ep
    · exact h p (h2 p hp ep)
def greedy : Int → V3 → V3 → List V3 → Int
  | rk, _, _, [] => rk
  | rk, r0, r1, v :: vs => if rk = 0 ∧ v ≠ z3 then greedy 1 v r1 vs else if rk = 1 ∧ cx r0 v ≠ z3 then greedy 2 r0 v vs else if rk = 2 ∧ dt r0 r1 v ≠ 0 then 3 else greedy rk r0 r1 vs
def GInv (rk : Int) (r0 r1 : V3) (L : List V3) : Prop :=
  (rk = 0 ∧ ∀ p ∈ L, p = z3) ∨ (rk = 1 ∧ r0 ∈ L ∧ r0 ≠ z3 ∧ ∀ p ∈ L, cx r0 p = z3) ∨ (rk = 2 ∧ r0 ∈ L ∧ r1 ∈ L ∧ cx r0 r1 ≠ z3 ∧ ∀ p ∈ L, dt r0 r1 p = 0)
theorem greedy_is : ∀ (vs : List V3) (rk : Int) (r0 r1 : V3) (L : List V3), GInv rk r0 r1 L → RankIs (L ++ vs) (greedy rk r0 r1 vs)
  | [], rk, r0, r1, L, h => by
    simp only [greedy, List.append_nil]
    rcases h with ⟨rfl, h⟩ | ⟨rfl, h0, h1, h2⟩ | ⟨rfl, h0, h1, h2, h3⟩
    · exact .inr (.inr (.inr ⟨rfl, h⟩))
    · exact .inr (.inr (.inl ⟨rfl, fun p hp q hq => cx_trans h1 (h2 p hp) (h2 q hq), r0, h0, h1⟩))
    · exact .inr (.inl ⟨rfl, fun p hp q hq r hr => dt_span h2 (h3 p hp) (h3 q hq) (h3 r hr), r0, h0, r1, h1, h2⟩)
  | v :: vs, rk, r0, r1, L, h => by
    rw [show L ++ v :: vs = (L ++ [v]) ++ vs from by simp]
    have hv : v ∈ L ++ [v] := by simp
    have up : ∀ {p}, p ∈ L → p ∈ L ++ [v] := fun h => by simp [h]
    have cases_ : ∀ {Q : V3 → Prop}, (∀ p ∈ L, Q p) → Q v → ∀ p ∈ L ++ [v], Q p := fun h1 h2 p hp => by
      rcases List.mem_append.mp hp with hp | hp
      · exact h1 p hp
      · simp only [List.mem_singleton] at hp; subst hp; exact h2
    unfold greedy
    rcases h with ⟨rfl, h⟩ | ⟨rfl, h0, h1, h2⟩ | ⟨rfl, h0, h1, h2, h3⟩
    · by_cases ev : v = z3
      · rw [if_neg (by simp [ev]), if_neg (by simp), if_neg (by simp)]
        exact greedy_is vs 0 r0 r1 _ (.inl ⟨rfl, cases_ h ev⟩)
      · rw [if_pos ⟨rfl, ev⟩]
        exact greedy_is vs 1 v r1 _ (.inr (.inl ⟨rfl, hv, ev, cases_ (fun p hp => by rw [h p hp]; exact cx_swap.mp (cx_z_l v)) (cx_self v)⟩))
    · rw [if_neg (by simp)]
      by_cases ev : cx r0 v = z3
      · rw [if_neg (by simp [ev]), if_neg (by simp)]
        exact greedy_is vs 1 r0 r1 _ (.inr (.inl ⟨rfl, up h0, h1, cases_ h2 ev⟩))
      · rw [if_pos ⟨rfl, ev⟩]
        exact greedy_is vs 2 r0 v _ (.inr (.inr ⟨rfl, up h0, hv, ev, cases_ (fun p hp => dt_swap r0 p v ▸ by rw [dt_of_cx (h2 p hp)]; rfl) (dt_self_r r0 v)⟩))
    · rw [if_neg (by simp), if_neg (by simp)]
      by_cases ev : dt r0 r1 v = 0
      · rw [if_neg (by simp [ev])]
        exact greedy_is vs 2 r0 r1 _ (.inr (.inr ⟨rfl, up h0, up h1, h2, cases_ h3 ev⟩))
      · rw [if_pos ⟨rfl, ev⟩]
        exact .inl ⟨rfl, r0, by simp [h0], r1, by simp [h1], v, by simp, ev⟩
def hasD (p q : V3) : List V3 → Bool
  | [] => false
  | r :: l => if dt p q r = 0 then hasD p q l else true
def scan1 (p : V3) : Int → List V3 → Int
  | r, [] => r
  | r, q :: l => if cx p q = z3 then scan1 p r l else if hasD p q l = true then 3 else scan1 p (if r < 2 then 2 else r) l
def scan0 : Int → List V3 → Int
  | r, [] => r
  | r, p :: l => if scan1 p (if r = 0 then 1 else r) l = 3 then 3 else scan0 (scan1 p (if r = 0 then 1 else r) l) l
theorem hasD_t {p q : V3} : ∀ {l : List V3}, hasD p q l = true → ∃ r ∈ l, dt p q r ≠ 0
  | [], h => by simp [hasD] at h
  | x :: l, h => by
    unfold hasD at h
    split at h
    · obtain ⟨r, hr, h⟩ := hasD_t h; exact ⟨r, by simp [hr], h⟩
    · rename_i hx; exact ⟨x, by simp, hx⟩
theorem hasD_f {p q : V3} : ∀ {l : List V3}, ¬hasD p q l = true → ∀ r ∈ l, dt p q r = 0
  | [], _ => fun r h => by cases h
  | x :: l, h => by
    unfold hasD at h
    split at h
    · rename_i hx
      intro r hr
      rcases List.mem_cons.mp hr with rfl | hr
      · exact hx
      · exact hasD_f h r hr
    · simp at h
theorem scan1_is (p : V3) : ∀ (l : List V3) (r : Int), r = 1 ∨ r = 2 → (scan1 p r l = 3 ∧ ∃ a ∈ l, ∃ b ∈ l, dt p a b ≠ 0) ∨
    ((∀ a ∈ l, ∀ b ∈ l, dt p a b = 0) ∧ ((scan1 p r l = 2 ∧ (r = 2 ∨ ∃ a ∈ l, cx p a ≠ z3)) ∨ (scan1 p r l = 1 ∧ r = 1 ∧ ∀ a ∈ l, cx p a = z3)))
  | [], r, hr => by
    right
    refine ⟨fun a h => by (cases h), ?_⟩
    rcases hr with rfl | rfl
    · exact .inr ⟨rfl, rfl, fun a h => by cases h⟩
    · exact .inl ⟨rfl, .inl rfl⟩
  | q :: l, r, hr => by
    unfold scan1
    have ext : (∀ a ∈ l, ∀ b ∈ l, dt p a b = 0) → (∀ b ∈ l, dt p q b = 0) → ∀ a ∈ q :: l, ∀ b ∈ q :: l, dt p a b = 0 := fun h1 h2 a ha b hb => by
      rcases List.mem_cons.mp ha with rfl | ha' <;> rcases List.mem_cons.mp hb with rfl | hb'
      · exact dt_self_r _ _
      · exact h2 b hb'
      · rw [dt_swap, h2 a ha']; rfl
      · exact h1 a ha' b hb'
    by_cases c : cx p q = z3
    · rw [if_pos c]
      rcases scan1_is p l r hr with ⟨h, a, ha, b, hb, h2⟩ | ⟨h1, h2⟩
      · exact .inl ⟨h, a, by simp [ha], b, by simp [hb], h2⟩
      · refine .inr ⟨ext h1 (fun b _ => dt_of_cx c b), ?_⟩
        rcases h2 with ⟨h2, h3⟩ | ⟨h2, h3, h4⟩
        · refine .inl ⟨h2, ?_⟩
          rcases h3 with h3 | ⟨a, ha, h3⟩
          · exact .inl h3
          · exact .inr ⟨a, by simp [ha], h3⟩
        · refine .inr ⟨h2, h3, fun a ha => ?_⟩
          rcases List.mem_cons.mp ha with rfl | ha
          · exact c
          · exact h4 a ha
    · rw [if_neg c]
      by_cases d : hasD p q l = true
      · rw [if_pos d]
        obtain ⟨b, hb, h⟩ := hasD_t d
        exact .inl ⟨rfl, q, by simp, b, by simp [hb], h⟩
      · rw [if_neg d]
        have e : (if r < 2 then 2 else r) = 2 := by split <;> omega
        rw [e]
        rcases scan1_is p l 2 (.inr rfl) with ⟨h, a, ha, b, hb, h2⟩ | ⟨h1, h2⟩
        · exact .inl ⟨h, a, by simp [ha], b, by simp [hb], h2⟩
        · refine .inr ⟨ext h1 (hasD_f d), ?_⟩
          rcases h2 with ⟨h2, h3⟩ | ⟨h2, h3, h4⟩
          · exact .inl ⟨h2, .inr ⟨q, by simp, c⟩⟩
          · omega
theorem scan0_is : ∀ (l : List V3) (r : Int), r = 0 ∨ r = 1 ∨ r = 2 → (scan0 r l = 3 ∧ ∃ a ∈ l, ∃ b ∈ l, ∃ c ∈ l, dt a b c ≠ 0) ∨
    ((∀ a ∈ l, ∀ b ∈ l, ∀ c ∈ l, dt a b c = 0) ∧ ((scan0 r l = 2 ∧ (r = 2 ∨ ∃ a ∈ l, ∃ b ∈ l, cx a b ≠ z3)) ∨ ((∀ a ∈ l, ∀ b ∈ l, cx a b = z3) ∧ ((scan0 r l = 1 ∧ (r = 1 ∨ r = 0 ∧ l ≠ [])) ∨ (scan0 r l = 0 ∧ r = 0 ∧ l = [])))))
  | [], r, hr => by
    right
    refine ⟨fun a h => by (cases h), ?_⟩
    rcases hr with rfl | rfl | rfl
    · exact .inr ⟨fun a h => by (cases h), .inr ⟨rfl, rfl, rfl⟩⟩
    · exact .inr ⟨fun a h => by (cases h), .inl ⟨rfl, .inl rfl⟩⟩
    · exact .inl ⟨rfl, .inl rfl⟩
  | p :: l, r, hr => by
    unfold scan0
    have hr1 : (if r = 0 then 1 else r) = 1 ∨ (if r = 0 then 1 else r) = 2 := by split <;> omega
    have hr2 : (if r = 0 then 1 else r) = 2 → r = 2 := by split <;> omega
    have hr3 : (if r = 0 then 1 else r) = 1 → r = 1 ∨ r = 0 ∧ p :: l ≠ [] := by
      split
      · rename_i h; exact fun _ => .inr ⟨h, by simp⟩
      · exact fun h => .inl h
    generalize (if r = 0 then 1 else r) = r1 at *
    rcases scan1_is p l r1 hr1 with ⟨h, a, ha, b, hb, h2⟩ | ⟨h1, h2⟩
    · rw [if_pos h]
      exact .inl ⟨rfl, p, by simp, a, by simp [ha], b, by simp [hb], h2⟩
    · have ext : (∀ a ∈ l, ∀ b ∈ l, ∀ c ∈ l, dt a b c = 0) → ∀ a ∈ p :: l, ∀ b ∈ p :: l, ∀ c ∈ p :: l, dt a b c = 0 := fun g a ha b hb c hc => by
        rcases List.mem_cons.mp ha with rfl | ha' <;> rcases List.mem_cons.mp hb with rfl | hb' <;> rcases List.mem_cons.mp hc with rfl | hc'
        · exact dt_self_l _ _
        · exact dt_self_l _ _
        · exact dt_self_o _ _
        · exact h1 b hb' c hc'
        · exact dt_self_r _ _
        · have := h1 a ha' c hc'
          grind [dt]
        · have := h1 a ha' b hb'
          grind [dt]
        · exact g a ha' b hb' c hc'
      have n3 : scan1 p r1 l ≠ 3 := by rcases h2 with ⟨h2, _⟩ | ⟨h2, _⟩ <;> omega
      rw [if_neg n3]
      have hs : scan1 p r1 l = 0 ∨ scan1 p r1 l = 1 ∨ scan1 p r1 l = 2 := by rcases h2 with ⟨h2, _⟩ | ⟨h2, _⟩ <;> omega
      rcases scan0_is l (scan1 p r1 l) hs with ⟨g, a, ha, b, hb, c, hc, g2⟩ | ⟨g1, g2⟩
      · exact .inl ⟨g, a, by simp [ha], b, by simp [hb], c, by simp [hc], g2⟩
      · refine .inr ⟨ext g1, ?_⟩
        rcases g2 with ⟨g2, g3⟩ | ⟨g2, g3⟩
        · refine .inl ⟨g2, ?_⟩
          rcases g3 with g3 | ⟨a, ha, b, hb, g3⟩
          · rcases h2 with ⟨_, h3 | ⟨a, ha, h3⟩⟩ | ⟨h2, _⟩
            · exact .inl (hr2 h3)
            · exact .inr ⟨p, by simp, a, by simp [ha], h3⟩
            · omega
          · exact .inr ⟨a, by simp [ha], b, by simp [hb], g3⟩
        · rcases h2 with ⟨h2, h3⟩ | ⟨h2, h3, h4⟩
          · exfalso; rcases g3 with ⟨_, g | g⟩ | ⟨_, g, _⟩ <;> omega
          · refine .inr ⟨fun a ha b hb => ?_, .inl ⟨?_, hr3 h3⟩⟩
            · rcases List.mem_cons.mp ha with rfl | ha' <;> rcases List.mem_cons.mp hb with rfl | hb'
              · exact cx_self _
              · exact h4 b hb'
              · exact cx_swap.mp (h4 a ha')
              · exact g2 a ha' b hb'
            · rcases g3 with ⟨g, _⟩ | ⟨_, g, _⟩ <;> omega
theorem scan0_rank {l : List V3} (hz : ∀ p ∈ l, p ≠ z3) : RankIs l (scan0 0 l) := by
  rcases scan0_is l 0 (.inl rfl) with ⟨g, a, ha, b, hb, c, hc, g2⟩ | ⟨g1, ⟨g2, g3⟩ | ⟨g2, ⟨g3, g4⟩ | ⟨g3, _, g4⟩⟩⟩
  · exact .inl ⟨g, a, ha, b, hb, c, hc, g2⟩
  · rcases g3 with g3 | ⟨a, ha, b, hb, g3⟩
    · omega
    · exact .inr (.inl ⟨g2, g1, a, ha, b, hb, g3⟩)
  · refine .inr (.inr (.inl ⟨g3, g2, ?_⟩))
    cases l with
    | nil => rcases g4 with g4 | ⟨_, g4⟩ <;> first | omega | exact absurd rfl g4
    | cons p l => exact ⟨p, by simp, hz p (by simp)⟩
  · subst g4; exact .inr (.inr (.inr ⟨g3, fun p h => by cases h⟩))
theorem Ev.succ {α : Type} {f g : Nat → Option α} {r : α} (h : ∀ k, f (k + 1) = g k) (hg : Ev g r) : Ev f r := by
  obtain ⟨K, h'⟩ := hg
  refine ⟨K + 1, fun k hk => ?_⟩
  obtain ⟨k, rfl⟩ : ∃ m, k = m + 1 := ⟨k - 1, by omega⟩
  show f (k + 1) = some r
  rw [h]
  exact h' k (by omega)
def v3 (p : S38) : V3 := (p.f0, p.f1, p.f2)
def Bd (p : S38) : Prop := (-500 ≤ p.f0 ∧ p.f0 ≤ 500) ∧ (-500 ≤ p.f1 ∧ p.f1 ≤ 500) ∧ (-500 ≤ p.f2 ∧ p.f2 ≤ 500)
theorem rd38 {L : List S38} {c : Nat} (h : c < L.length) : rd_T38 L (c : Int) = L[c] := by simp [rd_T38, List.getD_eq_getElem?_getD, h]
theorem cr_cx {a b c e f g : Int} (ha : -500 ≤ a ∧ a ≤ 500) (hb : -500 ≤ b ∧ b ≤ 500) (hc : -500 ≤ c ∧ c ≤ 500) (he : -500 ≤ e ∧ e ≤ 500) (hf : -500 ≤ f ∧ f ≤ 500) (hg : -500 ≤ g ∧ g ≤ 500) : cr a b c e f g = cx (a, b, c) (e, f, g) := by
  have m1 := mul_bd hb hg; have m2 := mul_bd hc hf; have m3 := mul_bd hc he; have m4 := mul_bd ha hg; have m5 := mul_bd ha hf; have m6 := mul_bd hb he
  simp only [cr, cx]
  rw [wrap_id (by omega) (by omega), wrap_id (by omega) (by omega), wrap_id (by omega) (by omega)]
theorem d3_dt {a b c e f g i j l : Int} : d3 a b c e f g i j l = dt (a, b, c) (e, f, g) (i, j, l) := rfl
theorem l4Cross_v {p q : S38} (hp : Bd p) (hq : Bd q) : spec_l4Cross.f p.f0 p.f1 p.f2 p.f3 q.f0 q.f1 q.f2 q.f3 = some (cx (v3 p) (v3 q)) := by
  rw [l4Cross_f, cr_cx hp.1 hp.2.1 hp.2.2 hq.1 hq.2.1 hq.2.2]; rfl
theorem l4Det3_v {p q r : S38} (hp : Bd p) (hq : Bd q) (hr : Bd r) : spec_l4Det3.f p.f0 p.f1 p.f2 p.f3 q.f0 q.f1 q.f2 q.f3 r.f0 r.f1 r.f2 r.f3 = some (dt (v3 p) (v3 q) (v3 r)) := by
  have := d3_bd hp.1 hp.2.1 hp.2.2 hq.1 hq.2.1 hq.2.2 hr.1 hr.2.1 hr.2.2
  rw [l4Det3_f, wrap_id (by omega) (by omega), d3_dt]; rfl
theorem z3_b (r : V3) : (r.1 == 0 && (r.2.1 == 0 && (r.2.2 == 0))) = decide (r = z3) := by
  obtain ⟨a, b, c⟩ := r
  rw [Bool.eq_iff_iff]
  simp [z3, Prod.ext_iff]
theorem n3_b (r : V3) : (!(r.1 == 0) || (!(r.2.1 == 0) || (!(r.2.2 == 0)))) = decide (r ≠ z3) := by
  have := z3_b r
  rw [decide_not, ← this]
  simp [Bool.not_and]
theorem wr_nat {α : Type} {L : List α} {c : Nat} (h : c < L.length) (hl : L.length ≤ 1048576) : wrap64 ((c : Int) + 1) = ((c + 1 : Nat) : Int) := by rw [wrap_id (by omega) (by omega)]; omega
theorem rank_l2 {L : List S38} (hb : ∀ p ∈ L, Bd p) (hl : L.length ≤ 1048576) {r v : Int} {i j : Nat} (hi : i < L.length) (hj : j < L.length) (hn : Ev (fun k => spec_l4Rank.l1 k L r (i : Int) ((j + 1 : Nat) : Int)) v) : ∀ (d c : Nat), L.length - c = d → c ≤ L.length →
    Ev (fun k => spec_l4Rank.l2 k L r (i : Int) (j : Int) (c : Int)) (if hasD (v3 L[i]) (v3 L[j]) ((L.drop c).map v3) = true then 3 else v) := by
  intro d
  induction d with
  | zero =>
    intro c hd hc
    have e : c = L.length := by omega
    subst e
    refine Ev.succ (g := fun k => spec_l4Rank.l1 k L r (i : Int) ((j + 1 : Nat) : Int)) (fun k => ?_) (by simpa [hasD] using hn)
    show spec_l4Rank.l2 (k + 1) L r (i : Int) (j : Int) (L.length : Int) = _
    unfold spec_l4Rank.l2
    rw [if_neg (by omega), wr_nat hj hl]
  | succ d ih =>
    intro c hd hc
    have hc' : c < L.length := by omega
    have ih' := ih (c + 1) (by omega) (by omega)
    rw [List.drop_eq_getElem_cons hc', List.map_cons]
    unfold hasD
    by_cases h0 : dt (v3 L[i]) (v3 L[j]) (v3 L[c]) = 0
    · rw [if_pos h0]
      refine Ev.succ (fun k => ?_) ih'
      show spec_l4Rank.l2 (k + 1) L r (i : Int) (j : Int) (c : Int) = _
      conv => lhs; unfold spec_l4Rank.l2
      rw [if_pos (by omega), if_pos (by omega), if_pos (by omega), if_pos (by omega), if_pos (by omega), if_pos (by omega), rd38 hi, rd38 hj, rd38 hc', l4Det3_v (hb _ (List.getElem_mem _)) (hb _ (List.getElem_mem _)) (hb _ (List.getElem_mem _)), Option.bind_some, if_pos h0, wr_nat hc' hl]
    · rw [if_neg h0, if_pos rfl]
      refine ⟨1, fun k hk => ?_⟩
      obtain ⟨k, rfl⟩ : ∃ m, k = m + 1 := ⟨k - 1, by omega⟩
      show spec_l4Rank.l2 (k + 1) L r (i : Int) (j : Int) (c : Int) = _
      unfold spec_l4Rank.l2
      rw [if_pos (by omega), if_pos (by omega), if_pos (by omega), if_pos (by omega), if_pos (by omega), if_pos (by omega), rd38 hi, rd38 hj, rd38 hc', l4Det3_v (hb _ (List.getElem_mem _)) (hb _ (List.getElem_mem _)) (hb _ (List.getElem_mem _)), Option.bind_some, if_neg h0]
theorem rank_l1 {L : List S38} (hb : ∀ p ∈ L, Bd p) (hl : L.length ≤ 1048576) {F : Int → Int} {i : Nat} (hi : i < L.length) (hn : ∀ r, r = 1 ∨ r = 2 → Ev (fun k => spec_l4Rank.l0 k L r ((i + 1 : Nat) : Int)) (F r)) : ∀ (d j : Nat) (r : Int), L.length - j = d → j ≤ L.length → r = 1 ∨ r = 2 →
    Ev (fun k => spec_l4Rank.l1 k L r (i : Int) (j : Int)) (if scan1 (v3 L[i]) r ((L.drop j).map v3) = 3 then 3 else F (scan1 (v3 L[i]) r ((L.drop j).map v3))) := by
  intro d
  induction d with
  | zero =>
    intro j r hd hj hr
    have e : j = L.length := by omega
    subst e
    refine Ev.succ (g := fun k => spec_l4Rank.l0 k L r ((i + 1 : Nat) : Int)) (fun k => ?_) ?_
    · show spec_l4Rank.l1 (k + 1) L r (i : Int) (L.length : Int) = _
      unfold spec_l4Rank.l1
      rw [if_neg (by omega), wr_nat hi hl]
    · rw [List.drop_length, List.map_nil]
      unfold scan1
      rw [if_neg (by omega)]
      exact hn r hr
  | succ d ih =>
    intro j r hd hj hr
    have hj' : j < L.length := by omega
    rw [List.drop_eq_getElem_cons hj', List.map_cons]
    unfold scan1
    have step : ∀ k, spec_l4Rank.l1 (k + 1) L r (i : Int) (j : Int) = if decide (cx (v3 L[i]) (v3 L[j]) = z3) = true then spec_l4Rank.l1 k L r (i : Int) ((j + 1 : Nat) : Int) else if r < 2 then spec_l4Rank.j4 k L 2 (i : Int) (j : Int) else spec_l4Rank.j4 k L r (i : Int) (j : Int) := fun k => by
      conv => lhs; unfold spec_l4Rank.l1
      rw [if_pos (by omega), if_pos (by omega), if_pos (by omega), if_pos (by omega), rd38 hi, rd38 hj', l4Cross_v (hb _ (List.getElem_mem _)) (hb _ (List.getElem_mem _)), Option.bind_some, z3_b, wr_nat hj' hl]
    by_cases c : cx (v3 L[i]) (v3 L[j]) = z3
    · rw [if_pos c]
      refine Ev.succ (fun k => ?_) (ih (j + 1) r (by omega) (by omega) hr)
      show spec_l4Rank.l1 (k + 1) L r (i : Int) (j : Int) = _
      rw [step, if_pos (by simpa using c)]
    · rw [if_neg c]
      have e : (if r < 2 then 2 else r) = 2 := by split <;> omega
      rw [e]
      refine Ev.succ (g := fun k => spec_l4Rank.j4 k L 2 (i : Int) (j : Int)) (fun k => ?_) ?_
      · show spec_l4Rank.l1 (k + 1) L r (i : Int) (j : Int) = _
        rw [step, if_neg (by simpa using c)]
        rcases hr with rfl | rfl
        · rw [if_pos (by omega)]
        · rw [if_neg (by omega)]
      refine Ev.succ (g := fun k => spec_l4Rank.l2 k L 2 (i : Int) (j : Int) ((j + 1 : Nat) : Int)) (fun k => ?_) ?_
      · show spec_l4Rank.j4 (k + 1) L 2 (i : Int) (j : Int) = _
        unfold spec_l4Rank.j4
        rw [wr_nat hj' hl]
      have h2 := rank_l2 hb hl hi hj' (ih (j + 1) 2 (by omega) (by omega) (.inr rfl)) _ (j + 1) rfl (by omega)
      by_cases hd2 : hasD (v3 L[i]) (v3 L[j]) ((L.drop (j + 1)).map v3) = true
      · rw [if_pos hd2] at h2 ⊢
        simpa using h2
      · rw [if_neg hd2] at h2 ⊢
        exact h2
theorem rank_l0 {L : List S38} (hb : ∀ p ∈ L, Bd p) (hl : L.length ≤ 1048576) (hz : ∀ p ∈ L, v3 p ≠ z3) : ∀ (d i : Nat) (r : Int), L.length - i = d → i ≤ L.length → r = 0 ∨ r = 1 ∨ r = 2 → Ev (fun k => spec_l4Rank.l0 k L r (i : Int)) (scan0 r ((L.drop i).map v3)) := by
  intro d
  induction d with
  | zero =>
    intro i r hd hi hr
    have e : i = L.length := by omega
    subst e
    refine ⟨1, fun k hk => ?_⟩
    obtain ⟨k, rfl⟩ : ∃ m, k = m + 1 := ⟨k - 1, by omega⟩
    show spec_l4Rank.l0 (k + 1) L r (L.length : Int) = _
    unfold spec_l4Rank.l0
    rw [if_neg (by omega), List.drop_length, List.map_nil]; rfl
  | succ d ih =>
    intro i r hd hi hr
    have hi' : i < L.length := by omega
    rw [List.drop_eq_getElem_cons hi', List.map_cons]
    unfold scan0
    have h1 := rank_l1 hb hl hi' (F := fun r => scan0 r ((L.drop (i + 1)).map v3)) (fun r hr => ih (i + 1) r (by omega) (by omega) (.inr hr)) (L.length - (i + 1)) (i + 1)
    have nz : (!(L[i].f0 == 0) || (!(L[i].f1 == 0) || (!(L[i].f2 == 0) || (!(L[i].f3 == 0))))) = true := by
      have := hz _ (List.getElem_mem hi')
      simp only [v3, z3, ne_eq, Prod.mk.injEq] at this
      by_cases a : L[i].f0 = 0 <;> by_cases b : L[i].f1 = 0 <;> by_cases c : L[i].f2 = 0 <;> first | (simp [a, b, c]; done) | exact absurd ⟨a, b, c⟩ this
    have tail : ∀ r, r = 1 ∨ r = 2 → Ev (fun k => spec_l4Rank.j2 k L r (i : Int)) (if scan1 (v3 L[i]) r ((L.drop (i + 1)).map v3) = 3 then 3 else scan0 (scan1 (v3 L[i]) r ((L.drop (i + 1)).map v3)) ((L.drop (i + 1)).map v3)) := fun r hr => by
      refine Ev.succ (fun k => ?_) (h1 r rfl (by omega) hr)
      show spec_l4Rank.j2 (k + 1) L r (i : Int) = _
      unfold spec_l4Rank.j2
      rw [wr_nat hi' hl]
    by_cases h0 : r = 0
    · subst h0
      rw [if_pos rfl]
      refine Ev.succ (g := fun k => spec_l4Rank.j1 k L 0 (i : Int) true) (fun k => ?_) ?_
      · show spec_l4Rank.l0 (k + 1) L 0 (i : Int) = _
        conv => lhs; unfold spec_l4Rank.l0
        rw [if_pos (by omega), if_pos rfl, if_pos (by omega), rd38 hi', nz]
      refine Ev.succ (fun k => ?_) (tail 1 (.inl rfl))
      show spec_l4Rank.j1 (k + 1) L 0 (i : Int) true = _
      unfold spec_l4Rank.j1
      rw [if_pos rfl]
    · rw [if_neg h0]
      refine Ev.succ (g := fun k => spec_l4Rank.j1 k L r (i : Int) false) (fun k => ?_) ?_
      · show spec_l4Rank.l0 (k + 1) L r (i : Int) = _
        conv => lhs; unfold spec_l4Rank.l0
        rw [if_pos (by omega), if_neg h0]
      refine Ev.succ (fun k => ?_) (tail r (by omega))
      show spec_l4Rank.j1 (k + 1) L r (i : Int) false = _
      unfold spec_l4Rank.j1
      rw [if_neg (by simp)]
theorem Ev.succ' {α : Type} {f g : Nat → Option α} {r : α} (h : ∃ K, ∀ k, K ≤ k → f (k + 1) = g k) (hg : Ev g r) : Ev f r := by
  obtain ⟨K1, h1⟩ := h
  obtain ⟨K, h'⟩ := hg
  refine ⟨K1 + K + 1, fun k hk => ?_⟩
  obtain ⟨k, rfl⟩ : ∃ m, k = m + 1 := ⟨k - 1, by omega⟩
  show f (k + 1) = some r
  rw [h1 k (by omega)]
  exact h' k (by omega)
def okp (p : S38) : Bool := plOk p.f0 p.f1 p.f2 p.f3
def tkn (p : S38) : V3 := if okp p = true then v3 p else z3
def B3 (v : V3) : Prop := (-500 ≤ v.1 ∧ v.1 ≤ 500) ∧ (-500 ≤ v.2.1 ∧ v.2.1 ≤ 500) ∧ (-500 ≤ v.2.2 ∧ v.2.2 ≤ 500)
theorem okp_bd {p : S38} (h : okp p = true) : Bd p := by
  have := plOk_iff.mp h
  exact ⟨this.1, this.2.1, this.2.2.1⟩
theorem tkn_bd (p : S38) : B3 (tkn p) := by
  unfold tkn
  split
  · rename_i h; exact okp_bd h
  · exact ⟨⟨by decide, by decide⟩, ⟨by decide, by decide⟩, ⟨by decide, by decide⟩⟩
theorem tk_tkn (p : S38) : ((tk p.f0 p.f1 p.f2 p.f3).1, (tk p.f0 p.f1 p.f2 p.f3).2.1, (tk p.f0 p.f1 p.f2 p.f3).2.2.1) = tkn p := by
  unfold tk tkn okp
  split <;> rfl
theorem crossOf_v {p q : V3} (hp : B3 p) (hq : B3 q) : impl_crossOf.f p.1 p.2.1 p.2.2 q.1 q.2.1 q.2.2 = some (cx p q) := by
  rw [crossOf_f, cr_cx hp.1 hp.2.1 hp.2.2 hq.1 hq.2.1 hq.2.2]
theorem det_v {p q r : V3} (hp : B3 p) (hq : B3 q) (hr : B3 r) : impl_det.f p.1 p.2.1 p.2.2 q.1 q.2.1 q.2.2 r.1 r.2.1 r.2.2 = some (dt p q r) := by
  have := d3_bd hp.1 hp.2.1 hp.2.2 hq.1 hq.2.1 hq.2.2 hr.1 hr.2.1 hr.2.2
  rw [det_f, wrap_id (by omega) (by omega), d3_dt]
theorem greedy_l0 {Q : List S38} (hl : Q.length ≤ 1048576) : ∀ (d j : Nat) (rk : Int) (r0 r1 : V3), Q.length - j = d → j ≤ Q.length → rk = 0 ∨ rk = 1 ∨ rk = 2 → B3 r0 → B3 r1 →
    Ev (fun k => impl_Rank.l0 k rk Q (Q.length : Int) (j : Int) r0.1 r0.2.1 r0.2.2 r1.1 r1.2.1 r1.2.2) (greedy rk r0 r1 ((Q.drop j).map tkn)) := by
  intro d
  induction d with
  | zero =>
    intro j rk r0 r1 hd hj hr b0 b1
    have e : j = Q.length := by omega
    subst e
    refine ⟨1, fun k hk => ?_⟩
    obtain ⟨k, rfl⟩ : ∃ m, k = m + 1 := ⟨k - 1, by omega⟩
    show impl_Rank.l0 (k + 1) rk Q (Q.length : Int) (Q.length : Int) r0.1 r0.2.1 r0.2.2 r1.1 r1.2.1 r1.2.2 = _
    unfold impl_Rank.l0
    rw [if_neg (by omega), List.drop_length, List.map_nil]; rfl
  | succ d ih =>
    intro j rk r0 r1 hd hj hr b0 b1
    have hj' : j < Q.length := by omega
    rw [List.drop_eq_getElem_cons hj', List.map_cons]
    obtain ⟨K1, h1⟩ := taken_ev Q[j].f0 Q[j].f1 Q[j].f2 Q[j].f3
    have ht := tk_tkn Q[j]
    have bv := tkn_bd Q[j]
    simp only at h1
    generalize tk Q[j].f0 Q[j].f1 Q[j].f2 Q[j].f3 = t at h1 ht
    generalize tkn Q[j] = v at ht bv ⊢
    have step : ∃ K, ∀ k, K ≤ k → impl_Rank.l0 (k + 1) rk Q (Q.length : Int) (j : Int) r0.1 r0.2.1 r0.2.2 r1.1 r1.2.1 r1.2.2 =
        if rk = 0 then impl_Rank.j1 k rk Q (Q.length : Int) (j : Int) (decide (v ≠ z3)) r0.1 r0.2.1 r0.2.2 r1.1 r1.2.1 r1.2.2 v.1 v.2.1 v.2.2 else impl_Rank.j1 k rk Q (Q.length : Int) (j : Int) false r0.1 r0.2.1 r0.2.2 r1.1 r1.2.1 r1.2.2 v.1 v.2.1 v.2.2 := by
      refine ⟨K1, fun k hk => ?_⟩
      conv => lhs; unfold impl_Rank.l0
      rw [if_pos (by omega), if_pos (by omega), if_pos (by omega), rd38 hj', h1 k hk]
      subst ht
      simp only [Option.bind_some, impl_normal.f]
      rw [← n3_b (t.1, t.2.1, t.2.2.1)]
    have j3f : ∀ (rk : Int) (r0 r1 : V3) {u : Int}, Ev (fun k => impl_Rank.l0 k rk Q (Q.length : Int) ((j + 1 : Nat) : Int) r0.1 r0.2.1 r0.2.2 r1.1 r1.2.1 r1.2.2) u → Ev (fun k => impl_Rank.j3 k rk Q (Q.length : Int) (j : Int) false r0.1 r0.2.1 r0.2.2 r1.1 r1.2.1 r1.2.2) u := fun rk r0 r1 u h => by
      refine Ev.succ (fun k => ?_) h
      show impl_Rank.j3 (k + 1) rk Q (Q.length : Int) (j : Int) false r0.1 r0.2.1 r0.2.2 r1.1 r1.2.1 r1.2.2 = _
      unfold impl_Rank.j3
      rw [if_neg (by simp), wr_nat hj' hl]
    have j2f : ∀ (rk : Int) (r0 r1 : V3) {u : Int}, rk ≠ 2 → Ev (fun k => impl_Rank.l0 k rk Q (Q.length : Int) ((j + 1 : Nat) : Int) r0.1 r0.2.1 r0.2.2 r1.1 r1.2.1 r1.2.2) u → Ev (fun k => impl_Rank.j2 k rk Q (Q.length : Int) (j : Int) false r0.1 r0.2.1 r0.2.2 r1.1 r1.2.1 r1.2.2 v.1 v.2.1 v.2.2) u := fun rk r0 r1 u hn h => by
      refine Ev.succ (fun k => ?_) (j3f rk r0 r1 h)
      show impl_Rank.j2 (k + 1) rk Q (Q.length : Int) (j : Int) false r0.1 r0.2.1 r0.2.2 r1.1 r1.2.1 r1.2.2 v.1 v.2.1 v.2.2 = _
      unfold impl_Rank.j2
      rw [if_neg (by simp), if_neg hn]
    unfold greedy
    rcases hr with rfl | rfl | rfl
    · by_cases c : v = z3
      · rw [if_neg (by simp [c]), if_neg (by simp), if_neg (by simp)]
        refine Ev.succ' (g := fun k => impl_Rank.j1 k 0 Q (Q.length : Int) (j : Int) false r0.1 r0.2.1 r0.2.2 r1.1 r1.2.1 r1.2.2 v.1 v.2.1 v.2.2) ?_ ?_
        · obtain ⟨K, h⟩ := step; refine ⟨K, fun k hk => ?_⟩; rw [h k hk, if_pos rfl, show decide (v ≠ z3) = false from by simp [c]]
        refine Ev.succ (fun k => ?_) (j2f 0 r0 r1 (by omega) (ih (j + 1) 0 r0 r1 (by omega) (by omega) (.inl rfl) b0 b1))
        show impl_Rank.j1 (k + 1) 0 Q (Q.length : Int) (j : Int) false r0.1 r0.2.1 r0.2.2 r1.1 r1.2.1 r1.2.2 v.1 v.2.1 v.2.2 = _
        unfold impl_Rank.j1
        rw [if_neg (by simp), if_neg (by omega)]
      · rw [if_pos ⟨rfl, c⟩]
        refine Ev.succ' (g := fun k => impl_Rank.j1 k 0 Q (Q.length : Int) (j : Int) true r0.1 r0.2.1 r0.2.2 r1.1 r1.2.1 r1.2.2 v.1 v.2.1 v.2.2) ?_ ?_
        · obtain ⟨K, h⟩ := step; refine ⟨K, fun k hk => ?_⟩; rw [h k hk, if_pos rfl, show decide (v ≠ z3) = true from by simp [c]]
        refine Ev.succ (fun k => ?_) (ih (j + 1) 1 v r1 (by omega) (by omega) (.inr (.inl rfl)) bv b1)
        show impl_Rank.j1 (k + 1) 0 Q (Q.length : Int) (j : Int) true r0.1 r0.2.1 r0.2.2 r1.1 r1.2.1 r1.2.2 v.1 v.2.1 v.2.2 = _
        unfold impl_Rank.j1
        rw [if_pos rfl, wr_nat hj' hl]
    · rw [if_neg (by simp)]
      refine Ev.succ' (g := fun k => impl_Rank.j1 k 1 Q (Q.length : Int) (j : Int) false r0.1 r0.2.1 r0.2.2 r1.1 r1.2.1 r1.2.2 v.1 v.2.1 v.2.2) ?_ ?_
      · obtain ⟨K, h⟩ := step; refine ⟨K, fun k hk => ?_⟩; rw [h k hk, if_neg (by omega)]
      refine Ev.succ (g := fun k => impl_Rank.j2 k 1 Q (Q.length : Int) (j : Int) (decide (cx r0 v ≠ z3)) r0.1 r0.2.1 r0.2.2 r1.1 r1.2.1 r1.2.2 v.1 v.2.1 v.2.2) (fun k => ?_) ?_
      · show impl_Rank.j1 (k + 1) 1 Q (Q.length : Int) (j : Int) false r0.1 r0.2.1 r0.2.2 r1.1 r1.2.1 r1.2.2 v.1 v.2.1 v.2.2 = _
        conv => lhs; unfold impl_Rank.j1
        rw [if_neg (by simp), if_pos rfl, crossOf_v b0 bv, Option.bind_some, n3_b]
      by_cases c : cx r0 v = z3
      · rw [if_neg (by simp [c]), if_neg (by simp), show decide (cx r0 v ≠ z3) = false from by simp [c]]
        exact j2f 1 r0 r1 (by omega) (ih (j + 1) 1 r0 r1 (by omega) (by omega) (.inr (.inl rfl)) b0 b1)
      · rw [if_pos ⟨rfl, c⟩, show decide (cx r0 v ≠ z3) = true from by simp [c]]
        refine Ev.succ (fun k => ?_) (ih (j + 1) 2 r0 v (by omega) (by omega) (.inr (.inr rfl)) b0 bv)
        show impl_Rank.j2 (k + 1) 1 Q (Q.length : Int) (j : Int) true r0.1 r0.2.1 r0.2.2 r1.1 r1.2.1 r1.2.2 v.1 v.2.1 v.2.2 = _
        unfold impl_Rank.j2
        rw [if_pos rfl, wr_nat hj' hl]
    · rw [if_neg (by simp), if_neg (by simp)]
      refine Ev.succ' (g := fun k => impl_Rank.j1 k 2 Q (Q.length : Int) (j : Int) false r0.1 r0.2.1 r0.2.2 r1.1 r1.2.1 r1.2.2 v.1 v.2.1 v.2.2) ?_ ?_
      · obtain ⟨K, h⟩ := step; refine ⟨K, fun k hk => ?_⟩; rw [h k hk, if_neg (by omega)]
      refine Ev.succ (g := fun k => impl_Rank.j2 k 2 Q (Q.length : Int) (j : Int) false r0.1 r0.2.1 r0.2.2 r1.1 r1.2.1 r1.2.2 v.1 v.2.1 v.2.2) (fun k => ?_) ?_
      · show impl_Rank.j1 (k + 1) 2 Q (Q.length : Int) (j : Int) false r0.1 r0.2.1 r0.2.2 r1.1 r1.2.1 r1.2.2 v.1 v.2.1 v.2.2 = _
        conv => lhs; unfold impl_Rank.j1
        rw [if_neg (by simp), if_neg (by omega)]
      refine Ev.succ (g := fun k => impl_Rank.j3 k 2 Q (Q.length : Int) (j : Int) (dt r0 r1 v != 0) r0.1 r0.2.1 r0.2.2 r1.1 r1.2.1 r1.2.2) (fun k => ?_) ?_
      · show impl_Rank.j2 (k + 1) 2 Q (Q.length : Int) (j : Int) false r0.1 r0.2.1 r0.2.2 r1.1 r1.2.1 r1.2.2 v.1 v.2.1 v.2.2 = _
        conv => lhs; unfold impl_Rank.j2
        rw [if_neg (by simp), if_pos rfl, det_v b0 b1 bv, Option.bind_some]
      by_cases c : dt r0 r1 v = 0
      · rw [if_neg (by simp [c]), show (dt r0 r1 v != 0) = false from by simp [c]]
        exact j3f 2 r0 r1 (ih (j + 1) 2 r0 r1 (by omega) (by omega) (.inr (.inr rfl)) b0 b1)
      · rw [if_pos ⟨rfl, c⟩, show (dt r0 r1 v != 0) = true from by simp [c]]
        refine ⟨1, fun k hk => ?_⟩
        obtain ⟨k, rfl⟩ : ∃ m, k = m + 1 := ⟨k - 1, by omega⟩
        show impl_Rank.j3 (k + 1) 2 Q (Q.length : Int) (j : Int) true r0.1 r0.2.1 r0.2.2 r1.1 r1.2.1 r1.2.2 = _
        unfold impl_Rank.j3
        rw [if_pos rfl]
theorem filter_l0 {Q : List S38} (hl : Q.length ≤ 1048576) : ∀ (d j : Nat) (acc : List S38) (v : Int), Q.length - j = d → j ≤ Q.length → acc.length ≤ j → Ev (fun k => spec_l4Rank.f k (acc ++ (Q.drop j).filter okp)) v → Ev (fun k => spec_Rank.l0 k Q acc (j : Int)) v := by
  intro d
  induction d with
  | zero =>
    intro j acc v hd hj ha h
    have e : j = Q.length := by omega
    subst e
    rw [List.drop_length, List.filter_nil, List.append_nil] at h
    refine Ev.succ (fun k => ?_) h
    show spec_Rank.l0 (k + 1) Q acc (Q.length : Int) = _
    unfold spec_Rank.l0
    rw [if_neg (by omega)]
    cases spec_l4Rank.f k acc <;> rfl
  | succ d ih =>
    intro j acc v hd hj ha h
    have hj' : j < Q.length := by omega
    rw [List.drop_eq_getElem_cons hj', List.filter_cons] at h
    obtain ⟨K1, h1⟩ := spec_PlaneOk_ev Q[j].f0 Q[j].f1 Q[j].f2 Q[j].f3
    simp only at h1
    by_cases c : okp Q[j] = true
    · rw [if_pos c] at h
      refine Ev.succ' ⟨K1, fun k hk => ?_⟩ (ih (j + 1) (acc ++ [Q[j]]) v (by omega) (by omega) (by simp; omega) (by simpa using h))
      show spec_Rank.l0 (k + 1) Q acc (j : Int) = _
      conv => lhs; unfold spec_Rank.l0
      rw [if_pos (by omega), if_pos (by omega), rd38 hj', h1 k hk, Option.bind_some, if_pos (show plOk Q[j].f0 Q[j].f1 Q[j].f2 Q[j].f3 = true from c), if_pos (by omega), wr_nat hj' hl]
    · rw [if_neg c] at h
      refine Ev.succ' ⟨K1, fun k hk => ?_⟩ (ih (j + 1) acc v (by omega) (by omega) (by omega) h)
      show spec_Rank.l0 (k + 1) Q acc (j : Int) = _
      conv => lhs; unfold spec_Rank.l0
      rw [if_pos (by omega), if_pos (by omega), rd38 hj', h1 k hk, Option.bind_some, if_neg (show ¬plOk Q[j].f0 Q[j].f1 Q[j].f2 Q[j].f3 = true from c), wr_nat hj' hl]
theorem okp_nz {p : S38} (h : okp p = true) : v3 p ≠ z3 := by
  have := plOk_iff.mp h
  intro e
  simp only [v3, z3, Prod.mk.injEq] at e
  obtain ⟨e1, e2, e3⟩ := e
  rw [e1, e2, e3] at this
  simp [PlOk] at this
theorem Rank_ev {Q : List S38} (hl : Q.length ≤ 1048576) : ∃ v, Ev (fun k => spec_Rank.f k Q) v ∧ Ev (fun k => impl_Rank.f k Q) v := by
  have hf : ∀ p ∈ Q.filter okp, okp p = true := fun p hp => (List.mem_filter.mp hp).2
  have h1 := rank_l0 (L := Q.filter okp) (fun p hp => okp_bd (hf p hp)) (Nat.le_trans (List.length_filter_le _ _) hl) (fun p hp => okp_nz (hf p hp)) _ 0 0 rfl (by omega) (.inl rfl)
  have h2 := greedy_l0 hl _ 0 0 z3 z3 rfl (by omega) (.inl rfl) ⟨⟨by decide, by decide⟩, ⟨by decide, by decide⟩, ⟨by decide, by decide⟩⟩ ⟨⟨by decide, by decide⟩, ⟨by decide, by decide⟩, ⟨by decide, by decide⟩⟩
  rw [List.drop_zero] at h1 h2
  have r1 := scan0_rank (l := (Q.filter okp).map v3) (fun p hp => by
    obtain ⟨q, hq, rfl⟩ := List.mem_map.mp hp; exact okp_nz (hf q hq))
  have r2 := greedy_is (Q.map tkn) 0 z3 z3 [] (.inl ⟨rfl, fun p h => by cases h⟩)
  rw [List.nil_append] at r2
  have r3 := RankIs.strip (M := Q.map tkn) (fun p hp => by
      obtain ⟨q, hq, rfl⟩ := List.mem_map.mp hp
      obtain ⟨h3, h4⟩ := List.mem_filter.mp hq
      exact List.mem_map.mpr ⟨q, h3, by simp [tkn, h4]⟩) (fun p hp hn => by
      obtain ⟨q, hq, rfl⟩ := List.mem_map.mp hp
      by_cases c : okp q = true
      · exact List.mem_map.mpr ⟨q, List.mem_filter.mpr ⟨hq, c⟩, by simp [tkn, c]⟩
      · exact absurd (by simp [tkn, c]) hn) r1
  refine ⟨_, ?_, (r3.unique r2) ▸ h2⟩
  refine filter_l0 hl _ 0 [] _ rfl (by omega) (by simp) ?_
  simpa [spec_l4Rank.f] using h1
def cv (p : S36) : S38 := ⟨p.f0, p.f1, p.f2, p.f3⟩
theorem rd36 {L : List S36} {c : Nat} (h : c < L.length) : rd_T36 L (c : Int) = L[c] := by simp [rd_T36, List.getD_eq_getElem?_getD, h]
theorem toPlaneS_l0 (l : List S36) (hl : l.length ≤ 1048576) : ∀ (d j k : Nat) (acc : List S38), l.length - j = d → j ≤ l.length → acc.length = l.length → acc.take j = (l.map cv).take j → d < k → laws_toPlaneS.l0 k l acc (j : Int) = some (l.map cv) := by
  intro d
  induction d with
  | zero =>
    intro j k acc hd hj ha ht hk
    obtain ⟨k, rfl⟩ : ∃ m, k = m + 1 := ⟨k - 1, by omega⟩
    unfold laws_toPlaneS.l0
    rw [if_neg (by omega)]
    have e : j = l.length := by omega
    subst e
    rw [← ha, List.take_length, ha, show l.length = (l.map cv).length from by simp, List.take_length] at ht
    rw [ht]
  | succ d ih =>
    intro j k acc hd hj ha ht hk
    obtain ⟨k, rfl⟩ : ∃ m, k = m + 1 := ⟨k - 1, by omega⟩
    have hj' : j < l.length := by omega
    unfold laws_toPlaneS.l0
    rw [if_pos (by omega), if_pos (by omega), rd36 hj']
    simp only [laws_toPlane.f, Option.bind_some]
    rw [if_pos (by omega), wrap_id (by omega) (by omega)]
    rw [show ((j : Int) + 1) = ((j + 1 : Nat) : Int) from by omega]
    refine ih (j + 1) k _ (by omega) (by omega) (by simpa using ha) ?_ (by omega)
    rw [show (l.map cv).take (j + 1) = (l.map cv).take j ++ [cv l[j]] from by rw [List.take_succ_eq_append_getElem (by simpa using hj'), List.getElem_map], ← ht, show (j : Int).toNat = j from by omega]
    exact set_take _ _ _ (by omega)
theorem toPlaneS_ev {l : List S36} (hl : l.length ≤ 1048576) : Ev (fun k => laws_toPlaneS.f k l) (l.map cv) := by
  refine ⟨l.length + 1, fun k hk => ?_⟩
  simp only [laws_toPlaneS.f]
  rw [if_pos (by omega), if_pos (by omega)]
  exact toPlaneS_l0 l hl l.length 0 k _ (by omega) (by omega) (by simp) (by simp) (by omega)
theorem eqPlaneS_l0 (l : List S38) (hl : l.length ≤ 1048576) : ∀ (d j k : Nat), l.length - j = d → j ≤ l.length → d < k → laws_eqPlaneS.l0 k l l (j : Int) = some true := by
  intro d
  induction d with
  | zero =>
    intro j k hd hj hk
    obtain ⟨k, rfl⟩ : ∃ m, k = m + 1 := ⟨k - 1, by omega⟩
    unfold laws_eqPlaneS.l0
    rw [if_neg (by omega)]
  | succ d ih =>
    intro j k hd hj hk
    obtain ⟨k, rfl⟩ : ∃ m, k = m + 1 := ⟨k - 1, by omega⟩
    unfold laws_eqPlaneS.l0
    rw [if_pos (by omega), if_pos (by omega), if_pos (by omega), eqPlane_self, Option.bind_some, if_pos rfl, wrap_id (by omega) (by omega)]
    exact ih (j + 1) k (by omega) (by omega) (by omega)
theorem eqPlaneS_self {l : List S38} (hl : l.length ≤ 1048576) : Ev (fun k => laws_eqPlaneS.f k l l) true := by
  refine ⟨l.length + 1, fun k hk => ?_⟩
  show laws_eqPlaneS.f k l l = _
  unfold laws_eqPlaneS.f
  rw [if_pos rfl]
  exact eqPlaneS_l0 l hl l.length 0 k rfl (by omega) (by omega)
theorem szPlaneS_f {l : List S36} {n : Int} (hl : l.length ≤ 9223372036854775807) (h0 : 0 ≤ n) (h1 : n ≤ 1048576) : laws_szPlaneS.f l n = some (if (l.length : Int) ≤ n then n - l.length else -1) := by
  unfold laws_szPlaneS.f
  rw [wrap_id (by omega) (by omega)]
  by_cases h : (l.length : Int) ≤ n
  · rw [if_neg (by omega), if_pos h]
  · rw [if_pos (by omega), if_neg h]
theorem FnExactRank_pure (l : List S36) (hm : l.length ≤ 9223372036854775807) : ∃ k, laws_FnExactRank.f k l = some true := by
  have hs := szPlaneS_f (n := 1048576) hm (by omega) (by omega)
  by_cases hl : l.length ≤ 1048576
  · obtain ⟨v, e1, e2⟩ := Rank_ev (Q := l.map cv) (by simpa using hl)
    obtain ⟨K1, h1⟩ := Ev.and e1 e2
    obtain ⟨K2, h2⟩ := Ev.and (toPlaneS_ev hl) (eqPlaneS_self (l := l.map cv) (by simpa using hl))
    obtain ⟨g1, g2⟩ := h1 (K1 + K2) (by omega)
    obtain ⟨g3, g4⟩ := h2 (K1 + K2) (by omega)
    refine ⟨K1 + K2, ?_⟩
    rw [if_pos (by omega)] at hs
    simp only [laws_FnExactRank.f, hs, Option.bind_some]
    rw [if_neg (by omega)]
    simp only [g1, g2, g3, g4, Option.bind_some, if_true]
  · rw [if_neg (by omega)] at hs
    refine ⟨0, ?_⟩
    simp [laws_FnExactRank.f, hs]
end Go.Proofs.Ytmcjkdbegkdhoaa.Pure
