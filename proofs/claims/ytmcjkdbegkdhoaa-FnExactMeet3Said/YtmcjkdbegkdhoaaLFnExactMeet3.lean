/- The law FnExactMeet3, plain: no program in sight but for the printed functions. -/
import Derived.Test.YtmcjkdbegkdhoaaPrint0
import Derived.Test.YtmcjkdbegkdhoaaPrint4
import Derived.Test.YtmcjkdbegkdhoaaPrint7
import Derived.Test.YtmcjkdbegkdhoaaPrint8
import Derived.Test.YtmcjkdbegkdhoaaPrint9
import Derived.Test.YtmcjkdbegkdhoaaPrint10
import Derived.Test.YtmcjkdbegkdhoaaPrint11
import Derived.Test.YtmcjkdbegkdhoaaPrint26
import Derived.Test.YtmcjkdbegkdhoaaPrint31
import Derived.Test.YtmcjkdbegkdhoaaPrint34
import Derived.Test.YtmcjkdbegkdhoaaPrint35
import Derived.Test.YtmcjkdbegkdhoaaPrint49
import Derived.Test.YtmcjkdbegkdhoaaPrint50
import Derived.Test.YtmcjkdbegkdhoaaPrint51
import Derived.Test.YtmcjkdbegkdhoaaPrint52
import Derived.Test.YtmcjkdbegkdhoaaPrint53
import Derived.Test.YtmcjkdbegkdhoaaPrint54
namespace Go.Proofs.Ytmcjkdbegkdhoaa.Pure
open Go.RowKit Go.Proofs.Ytmcjkdbegkdhoaa.Print Go.Proofs.YtmcjkdbegkdhoaaW.PrintWords Go.Proofs.YtmcjkdbegkdhoaaW.PrintLast Go.Proofs.YtmcjkdbegkdhoaaW.PrintMore
set_option linter.unusedSimpArgs false
set_option linter.unusedVariables false
theorem wrap_id {x : Int} (h0 : -9223372036854775808 ≤ x) (h1 : x ≤ 9223372036854775807) : wrap64 x = x := by
  unfold wrap64; omega
theorem Ev.and {α β : Type} {g : Nat → Option α} {f : Nat → Option β} {a : α} {b : β} (h : Ev g a) (k : Ev f b) : ∃ K, ∀ n, K ≤ n → g n = some a ∧ f n = some b := by
  obtain ⟨K1, h1⟩ := h
  obtain ⟨K2, h2⟩ := k
  exact ⟨K1 + K2, fun n hn => ⟨h1 n (by omega), h2 n (by omega)⟩⟩
theorem l3Abs_f {a : Int} (h : -9223372036854775807 ≤ a) (h1 : a ≤ 9223372036854775807) : spec_l3Abs.f a = some (a.natAbs : Int) := by
  unfold spec_l3Abs.f
  by_cases c : a < 0
  · rw [if_pos c, wrap_id (by omega) (by omega)]; congr 1; omega
  · rw [if_neg c]; congr 1; omega
theorem l3Gcd_l0 : ∀ (b a k : Nat), b < k → spec_l3Gcd.l0 k (a : Int) (b : Int) = some ((Nat.gcd a b : Nat) : Int) := by
  intro b
  induction b using Nat.strongRecOn with
  | _ b ih =>
    intro a k hk
    obtain ⟨k, rfl⟩ : ∃ m, k = m + 1 := ⟨k - 1, by omega⟩
    unfold spec_l3Gcd.l0
    by_cases c : b = 0
    · subst c; rw [if_neg (by omega)]; simp
    · rw [if_pos (by omega), if_neg (by omega), show Int.tmod (a : Int) (b : Int) = ((a % b : Nat) : Int) from rfl]
      have hlt : a % b < b := Nat.mod_lt _ (by omega)
      rw [ih (a % b) hlt b k (by omega)]
      congr 2
      rw [Nat.gcd_comm a b, Nat.gcd_rec b a]
      exact Nat.gcd_comm _ _
theorem l3Gcd_ev {a b : Int} (h : -9223372036854775807 ≤ a) (h1 : a ≤ 9223372036854775807) (h2 : -9223372036854775807 ≤ b) (h3 : b ≤ 9223372036854775807) :
    Ev (fun k => spec_l3Gcd.f k a b) ((Nat.gcd a.natAbs b.natAbs : Nat) : Int) := by
  refine ⟨b.natAbs + 1, fun k hk => ?_⟩
  simp only [spec_l3Gcd.f, l3Abs_f h h1, l3Abs_f h2 h3, Option.bind_some]
  exact l3Gcd_l0 _ _ _ (by omega)
theorem mx_abs {x : Int} (h : -9223372036854775807 ≤ x) (h1 : x ≤ 9223372036854775807) : mx x (wrap64 (-x)) = (x.natAbs : Int) := by
  rw [wrap_id (by omega) (by omega)]; unfold mx; split <;> omega
theorem divisor_l1 {xs : List Int} {len i : Int} {r : Int} : ∀ (n g : Nat), Ev (fun k => impl_divisor.l0 k ((Nat.gcd g n : Nat) : Int) xs len (wrap64 (i + 1))) r → Ev (fun k => impl_divisor.l1 k (g : Int) (n : Int) xs len i) r := by
  intro n
  induction n using Nat.strongRecOn with
  | _ n ih =>
    intro g h
    by_cases c : n = 0
    · subst c
      refine Ev.step (fun k => ?_) h
      simp [impl_divisor.l1]
    · refine Ev.step (f := fun k => impl_divisor.l1 k (n : Int) ((g % n : Nat) : Int) xs len i) (fun k => ?_) (ih (g % n) (Nat.mod_lt _ (by omega)) n ?_)
      · simp only [impl_divisor.l1]; rw [if_neg (by omega)]; rfl
      · have e : Nat.gcd n (g % n) = Nat.gcd g n := by rw [Nat.gcd_comm g n, Nat.gcd_rec n g]; exact Nat.gcd_comm _ _
        rw [e]; exact h
theorem divisor_l0 {xs : List Int} {len i : Int} {r : Int} {g : Nat} (h0 : 0 ≤ i) (h1 : i < len) (h2 : i < (xs.length : Int)) (b0 : -9223372036854775807 ≤ rd xs i) (b1 : rd xs i ≤ 9223372036854775807)
    (h : Ev (fun k => impl_divisor.l0 k ((Nat.gcd g (rd xs i).natAbs : Nat) : Int) xs len (wrap64 (i + 1))) r) : Ev (fun k => impl_divisor.l0 k (g : Int) xs len i) r := by
  refine Ev.step (f := fun k => impl_divisor.l1 k (g : Int) ((rd xs i).natAbs : Int) xs len i) (fun k => ?_) (divisor_l1 _ _ h)
  simp only [impl_divisor.l0]; rw [if_pos h1, if_pos h0, if_pos h2, mx_abs b0 b1]
theorem divisor4_ev {a b c d : Int} (ha : -9223372036854775807 ≤ a ∧ a ≤ 9223372036854775807) (hb : -9223372036854775807 ≤ b ∧ b ≤ 9223372036854775807) (hc : -9223372036854775807 ≤ c ∧ c ≤ 9223372036854775807) (hd : -9223372036854775807 ≤ d ∧ d ≤ 9223372036854775807) :
    Ev (fun k => impl_divisor.f k [a, b, c, d]) ((Nat.gcd (Nat.gcd a.natAbs b.natAbs) (Nat.gcd c.natAbs d.natAbs) : Nat) : Int) := by
  have e : Nat.gcd (Nat.gcd a.natAbs b.natAbs) (Nat.gcd c.natAbs d.natAbs) = Nat.gcd (Nat.gcd (Nat.gcd (Nat.gcd 0 a.natAbs) b.natAbs) c.natAbs) d.natAbs := by
    rw [Nat.gcd_zero_left, Nat.gcd_assoc (Nat.gcd a.natAbs b.natAbs)]
  rw [e]
  refine Ev.congr (f := fun k => impl_divisor.l0 k ((0 : Nat) : Int) [a, b, c, d] 4 0) (fun k => rfl) ?_
  refine divisor_l0 (by omega) (by omega) (by simp) (by simpa [rd] using ha.1) (by simpa [rd] using ha.2) ?_
  rw [show wrap64 (0 + 1) = 1 from wrap_id (by omega) (by omega)]
  refine divisor_l0 (by omega) (by omega) (by simp) (by simpa [rd] using hb.1) (by simpa [rd] using hb.2) ?_
  rw [show wrap64 (1 + 1) = 2 from wrap_id (by omega) (by omega)]
  refine divisor_l0 (by omega) (by omega) (by simp) (by simpa [rd] using hc.1) (by simpa [rd] using hc.2) ?_
  rw [show wrap64 (2 + 1) = 3 from wrap_id (by omega) (by omega)]
  refine divisor_l0 (by omega) (by omega) (by simp) (by simpa [rd] using hd.1) (by simpa [rd] using hd.2) ?_
  rw [show wrap64 (3 + 1) = 4 from wrap_id (by omega) (by omega)]
  refine ⟨1, fun k hk => ?_⟩
  obtain ⟨k, rfl⟩ : ∃ m, k = m + 1 := ⟨k - 1, by omega⟩
  simp [impl_divisor.l0, rd]
def PlOk (a b c d : Int) : Prop := (-500 ≤ a ∧ a ≤ 500) ∧ (-500 ≤ b ∧ b ≤ 500) ∧ (-500 ≤ c ∧ c ≤ 500) ∧ (-500 ≤ d ∧ d ≤ 500) ∧ (a ≠ 0 ∨ b ≠ 0 ∨ c ≠ 0) ∧ Nat.gcd (Nat.gcd a.natAbs b.natAbs) (Nat.gcd c.natAbs d.natAbs) = 1
instance (a b c d : Int) : Decidable (PlOk a b c d) := by unfold PlOk; infer_instance
def plOk (a b c d : Int) : Bool := decide (PlOk a b c d)
theorem plOk_iff {a b c d : Int} : plOk a b c d = true ↔ PlOk a b c d := by simp [plOk]
theorem l1In_f (a b c : Int) : spec_l1In.f a b c = some (decide (b ≤ a ∧ a ≤ c)) := by
  unfold spec_l1In.f
  split
  · rename_i h; exact congrArg some (decide_eq_decide.mpr (by omega))
  · rename_i h; exact congrArg some (decide_eq_false (by omega)).symm
theorem inRange_f (a b c : Int) : impl_inRange.f a b c = some (decide (b ≤ a ∧ a ≤ c)) := by
  unfold impl_inRange.f
  split
  · rename_i h; exact congrArg some (decide_eq_decide.mpr (by omega))
  · rename_i h; exact congrArg some (decide_eq_false (by omega)).symm
theorem plOk_in {a b c d : Int} (hr : (-500 ≤ a ∧ a ≤ 500) ∧ (-500 ≤ b ∧ b ≤ 500) ∧ (-500 ≤ c ∧ c ≤ 500) ∧ (-500 ≤ d ∧ d ≤ 500)) :
    plOk a b c d = (decide (a ≠ 0 ∨ b ≠ 0 ∨ c ≠ 0) && (((Nat.gcd (Nat.gcd a.natAbs b.natAbs) (Nat.gcd c.natAbs d.natAbs) : Nat) : Int) == 1)) := by
  obtain ⟨h1, h2, h3, h4⟩ := hr
  have e : ∀ n : Nat, (((n : Int) == 1) : Bool) = decide (n = 1) := by intro n; by_cases h : n = 1 <;> simp [h]; omega
  rw [e]
  simp only [plOk, PlOk, h1, h2, h3, h4, and_self, true_and, Bool.decide_and]
theorem spec_PlaneOk_ev (a b c d : Int) : Ev (fun k => spec_PlaneOk.f k a b c d) (plOk a b c d) := by
  by_cases hr : (-500 ≤ a ∧ a ≤ 500) ∧ (-500 ≤ b ∧ b ≤ 500) ∧ (-500 ≤ c ∧ c ≤ 500) ∧ (-500 ≤ d ∧ d ≤ 500)
  · have ⟨ha, hb, hc, hd⟩ := hr
    obtain ⟨K1, h1⟩ := l3Gcd_ev (a := a) (b := b) (by omega) (by omega) (by omega) (by omega)
    obtain ⟨K2, h2⟩ := l3Gcd_ev (a := c) (b := d) (by omega) (by omega) (by omega) (by omega)
    have la : Nat.gcd a.natAbs b.natAbs ≤ 500 := by
      by_cases z : a = 0
      · subst z; rw [Int.natAbs_zero, Nat.gcd_zero_left]; omega
      · exact Nat.le_trans (Nat.gcd_le_left _ (by omega)) (by omega)
    have lc : Nat.gcd c.natAbs d.natAbs ≤ 500 := by
      by_cases z : c = 0
      · subst z; rw [Int.natAbs_zero, Nat.gcd_zero_left]; omega
      · exact Nat.le_trans (Nat.gcd_le_left _ (by omega)) (by omega)
    obtain ⟨K3, h3⟩ := l3Gcd_ev (a := ((Nat.gcd a.natAbs b.natAbs : Nat) : Int)) (b := ((Nat.gcd c.natAbs d.natAbs : Nat) : Int)) (by omega) (by omega) (by omega) (by omega)
    refine ⟨K1 + K2 + K3, fun k hk => ?_⟩
    have g1 : spec_l3Gcd.f k a b = _ := h1 k (by omega)
    have g2 : spec_l3Gcd.f k c d = _ := h2 k (by omega)
    have g3 : spec_l3Gcd.f k ((Nat.gcd a.natAbs b.natAbs : Nat) : Int) ((Nat.gcd c.natAbs d.natAbs : Nat) : Int) = _ := h3 k (by omega)
    simp only [Int.natAbs_natCast] at g3
    simp only [spec_PlaneOk.f, spec_l3In.f, l1In_f, Option.bind_some, ha, hb, hc, hd, and_self, decide_true, if_true, g1, g2, g3, plOk_in hr]
    by_cases za : a = 0 <;> by_cases zb : b = 0 <;> by_cases zc : c = 0 <;> simp [za, zb, zc]
  · refine ⟨0, fun k _ => ?_⟩
    have hz : plOk a b c d = false := by simp only [plOk, decide_eq_false_iff_not]; intro h; exact hr ⟨h.1, h.2.1, h.2.2.1, h.2.2.2.1⟩
    rw [hz]
    simp only [spec_PlaneOk.f, spec_l3In.f, l1In_f, Option.bind_some]
    by_cases ca : (-500 ≤ a ∧ a ≤ 500) <;> by_cases cb : (-500 ≤ b ∧ b ≤ 500) <;> by_cases cc : (-500 ≤ c ∧ c ≤ 500) <;> by_cases cd : (-500 ≤ d ∧ d ≤ 500) <;> first | (simp [ca, cb, cc, cd]; done) | exact absurd ⟨ca, cb, cc, cd⟩ hr
theorem impl_PlaneOk_ev (a b c d : Int) : Ev (fun k => impl_PlaneOk.f k a b c d) (plOk a b c d) := by
  by_cases hr : (-500 ≤ a ∧ a ≤ 500) ∧ (-500 ≤ b ∧ b ≤ 500) ∧ (-500 ≤ c ∧ c ≤ 500) ∧ (-500 ≤ d ∧ d ≤ 500)
  · have ⟨ha, hb, hc, hd⟩ := hr
    obtain ⟨K1, h1⟩ := divisor4_ev (a := a) (b := b) (c := c) (d := d) (by omega) (by omega) (by omega) (by omega)
    refine ⟨K1 + 1, fun k hk => ?_⟩
    obtain ⟨k, rfl⟩ : ∃ m, k = m + 1 := ⟨k - 1, by omega⟩
    have g1 : impl_divisor.f k [a, b, c, d] = _ := h1 k (by omega)
    simp only [impl_PlaneOk.f, impl_PlaneOk.j0, impl_isCoef.f, inRange_f, Option.bind_some, ha, hb, hc, hd, and_self, decide_true, if_true, Bool.not_true, Bool.false_eq_true, if_false, g1, plOk_in hr]
    by_cases za : a = 0 <;> by_cases zb : b = 0 <;> by_cases zc : c = 0 <;> simp [za, zb, zc]
  · refine ⟨1, fun k hk => ?_⟩
    obtain ⟨k, rfl⟩ : ∃ m, k = m + 1 := ⟨k - 1, by omega⟩
    have hz : plOk a b c d = false := by simp only [plOk, decide_eq_false_iff_not]; intro h; exact hr ⟨h.1, h.2.1, h.2.2.1, h.2.2.2.1⟩
    rw [hz]
    simp only [impl_PlaneOk.f, impl_PlaneOk.j0, impl_isCoef.f, inRange_f, Option.bind_some]
    by_cases ca : (-500 ≤ a ∧ a ≤ 500) <;> by_cases cb : (-500 ≤ b ∧ b ≤ 500) <;> by_cases cc : (-500 ≤ c ∧ c ≤ 500) <;> by_cases cd : (-500 ≤ d ∧ d ≤ 500) <;> first | (simp [ca, cb, cc, cd]; done) | exact absurd ⟨ca, cb, cc, cd⟩ hr
theorem wr_add_l (a b : Int) : wrap64 (wrap64 a + b) = wrap64 (a + b) := by unfold wrap64; omega
theorem wr_add_r (a b : Int) : wrap64 (a + wrap64 b) = wrap64 (a + b) := by unfold wrap64; omega
theorem wr_sub_l (a b : Int) : wrap64 (wrap64 a - b) = wrap64 (a - b) := by unfold wrap64; omega
theorem wr_sub_r (a b : Int) : wrap64 (a - wrap64 b) = wrap64 (a - b) := by unfold wrap64; omega
theorem wr_form (a : Int) : ∃ q : Int, wrap64 a = a - 18446744073709551616 * q := ⟨(a + 9223372036854775808) / 18446744073709551616, by unfold wrap64; omega⟩
theorem wr_shift (a q : Int) : wrap64 (a - 18446744073709551616 * q) = wrap64 a := by unfold wrap64; omega
theorem wr_mul_l (a b : Int) : wrap64 (wrap64 a * b) = wrap64 (a * b) := by
  obtain ⟨q, h⟩ := wr_form a
  rw [h, Int.sub_mul, Int.mul_assoc, wr_shift]
theorem wr_mul_r (a b : Int) : wrap64 (a * wrap64 b) = wrap64 (a * b) := by rw [Int.mul_comm, wr_mul_l, Int.mul_comm]
theorem mul_bd {x y X Y : Int} (hx : -X ≤ x ∧ x ≤ X) (hy : -Y ≤ y ∧ y ≤ Y) : -(X * Y) ≤ x * y ∧ x * y ≤ X * Y := by
  have hX : 0 ≤ X := by omega
  have hY : 0 ≤ Y := by omega
  have h1 : x.natAbs * y.natAbs ≤ X.natAbs * Y.natAbs := Nat.mul_le_mul (by omega) (by omega)
  have h2 : (x * y).natAbs = x.natAbs * y.natAbs := Int.natAbs_mul x y
  have h3 : (X * Y).natAbs = X.natAbs * Y.natAbs := Int.natAbs_mul X Y
  have h4 : 0 ≤ X * Y := Int.mul_nonneg hX hY
  omega
def d3 (a b c e f g i j l : Int) : Int := a * (f * l - g * j) + b * (g * i - e * l) + c * (e * j - f * i)
theorem l4Det3_f (a b c d e f g h i j l m : Int) : spec_l4Det3.f a b c d e f g h i j l m = some (wrap64 (d3 a b c e f g i j l)) := by
  simp only [spec_l4Det3.f, spec_l4Cross.f, Option.bind_some, d3]
  simp only [wr_add_l, wr_add_r, wr_sub_l, wr_sub_r, wr_mul_r, wr_mul_l]
theorem det3_f (a b c d e f g h i j l m : Int) : impl_det3.f a b c d e f g h i j l m = some (wrap64 (d3 a b c e f g i j l)) := by
  simp only [impl_det3.f, impl_normal.f, impl_det.f, impl_crossOf.f, impl_dot.f, Option.bind_some, d3]
  simp only [wr_add_l, wr_add_r, wr_sub_l, wr_sub_r, wr_mul_r, wr_mul_l]
def D3 (p q r : Int × Int × Int × Int) : Int := d3 p.1 p.2.1 p.2.2.1 q.1 q.2.1 q.2.2.1 r.1 r.2.1 r.2.2.1
theorem gcd_le_big {a b : Int} {n : Nat} (h : b.natAbs ≤ n) (h2 : a.natAbs ≤ n) : Nat.gcd a.natAbs b.natAbs ≤ n := by
  by_cases z : a = 0
  · subst z; rw [Int.natAbs_zero, Nat.gcd_zero_left]; omega
  · exact Nat.le_trans (Nat.gcd_le_left _ (by omega)) (by omega)
theorem gcd3_ev {a b c d : Int} {n : Nat} (hn : n ≤ 9223372036854775807) (ha : a.natAbs ≤ n) (hb : b.natAbs ≤ n) (hc : c.natAbs ≤ n) (hd : d.natAbs ≤ n) :
    ∃ K, ∀ k, K ≤ k → spec_l3Gcd.f k a b = some ((Nat.gcd a.natAbs b.natAbs : Nat) : Int) ∧ spec_l3Gcd.f k c d = some ((Nat.gcd c.natAbs d.natAbs : Nat) : Int) ∧
      spec_l3Gcd.f k ((Nat.gcd a.natAbs b.natAbs : Nat) : Int) ((Nat.gcd c.natAbs d.natAbs : Nat) : Int) = some ((Nat.gcd (Nat.gcd a.natAbs b.natAbs) (Nat.gcd c.natAbs d.natAbs) : Nat) : Int) := by
  obtain ⟨K1, h1⟩ := l3Gcd_ev (a := a) (b := b) (by omega) (by omega) (by omega) (by omega)
  obtain ⟨K2, h2⟩ := l3Gcd_ev (a := c) (b := d) (by omega) (by omega) (by omega) (by omega)
  have la := gcd_le_big hb ha
  have lc := gcd_le_big hd hc
  obtain ⟨K3, h3⟩ := l3Gcd_ev (a := ((Nat.gcd a.natAbs b.natAbs : Nat) : Int)) (b := ((Nat.gcd c.natAbs d.natAbs : Nat) : Int)) (by omega) (by omega) (by omega) (by omega)
  refine ⟨K1 + K2 + K3, fun k hk => ⟨h1 k (by omega), h2 k (by omega), ?_⟩⟩
  have g3 := h3 k (by omega)
  simpa only [Int.natAbs_natCast] using g3
theorem det_f (a b c e f g i j l : Int) : impl_det.f a b c e f g i j l = some (wrap64 (d3 a b c e f g i j l)) := by
  simp only [impl_det.f, impl_crossOf.f, impl_dot.f, Option.bind_some, d3]
  simp only [wr_add_l, wr_add_r, wr_sub_l, wr_sub_r, wr_mul_r, wr_mul_l]
theorem d3_bd {a b c e f g i j l : Int} (ha : -500 ≤ a ∧ a ≤ 500) (hb : -500 ≤ b ∧ b ≤ 500) (hc : -500 ≤ c ∧ c ≤ 500) (he : -500 ≤ e ∧ e ≤ 500) (hf : -500 ≤ f ∧ f ≤ 500) (hg : -500 ≤ g ∧ g ≤ 500)
    (hi : -500 ≤ i ∧ i ≤ 500) (hj : -500 ≤ j ∧ j ≤ 500) (hl : -500 ≤ l ∧ l ≤ 500) : -750000000 ≤ d3 a b c e f g i j l ∧ d3 a b c e f g i j l ≤ 750000000 := by
  have m1 := mul_bd hf hl
  have m2 := mul_bd hg hj
  have m3 := mul_bd hg hi
  have m4 := mul_bd he hl
  have m5 := mul_bd he hj
  have m6 := mul_bd hf hi
  have n1 := mul_bd (x := a) (y := f * l - g * j) (X := 500) (Y := 500000) ha (by omega)
  have n2 := mul_bd (x := b) (y := g * i - e * l) (X := 500) (Y := 500000) hb (by omega)
  have n3 := mul_bd (x := c) (y := e * j - f * i) (X := 500) (Y := 500000) hc (by omega)
  unfold d3
  omega
theorem neg_bd {a : Int} (ha : -500 ≤ a ∧ a ≤ 500) : -500 ≤ wrap64 (-a) ∧ wrap64 (-a) ≤ 500 := by rw [wrap_id (by omega) (by omega)]; omega
def lowest (x y z w : Int) : Int × Int × Int × Int :=
  let g := (Nat.gcd (Nat.gcd x.natAbs y.natAbs) (Nat.gcd z.natAbs w.natAbs) : Nat)
  let s := if w < 0 then wrap64 (-(g : Int)) else (g : Int)
  (wrap64 (Int.tdiv x s), wrap64 (Int.tdiv y s), wrap64 (Int.tdiv z s), wrap64 (Int.tdiv w s))
theorem gcd_pos {x y z w : Int} (h : w ≠ 0) : 0 < Nat.gcd (Nat.gcd x.natAbs y.natAbs) (Nat.gcd z.natAbs w.natAbs) := by
  have h1 : 0 < Nat.gcd z.natAbs w.natAbs := Nat.gcd_pos_of_pos_right _ (by omega)
  exact Nat.gcd_pos_of_pos_right _ h1
theorem l5Spot_ev {x y z w : Int} (hx : x.natAbs ≤ 1000000000) (hy : y.natAbs ≤ 1000000000) (hz : z.natAbs ≤ 1000000000) (hw : w.natAbs ≤ 1000000000) (h : w ≠ 0) : Ev (fun k => spec_l5Spot.f k x y z w) (lowest x y z w) := by
  obtain ⟨K, hK⟩ := gcd3_ev (a := x) (b := y) (c := z) (d := w) (n := 1000000000) (by omega) hx hy hz hw
  have hp := gcd_pos (x := x) (y := y) (z := z) h
  have hl : Nat.gcd (Nat.gcd x.natAbs y.natAbs) (Nat.gcd z.natAbs w.natAbs) ≤ 1000000000 :=
    Nat.le_trans (Nat.gcd_le_right _ (Nat.gcd_pos_of_pos_right _ (by omega))) (Nat.le_trans (Nat.gcd_le_right _ (by omega)) hw)
  refine ⟨K, fun k hk => ?_⟩
  obtain ⟨g1, g2, g3⟩ := hK k hk
  generalize hg : Nat.gcd (Nat.gcd x.natAbs y.natAbs) (Nat.gcd z.natAbs w.natAbs) = g at *
  have e1 : ¬ wrap64 (-(g : Int)) = 0 := by rw [wrap_id (by omega) (by omega)]; omega
  have e2 : ¬ ((g : Int) = 0) := by omega
  simp only [spec_l5Spot.f, g1, g2, g3, Option.bind_some, lowest, hg]
  by_cases hn : w < 0
  · simp only [hn, if_true, e1, if_false]
  · simp only [hn, if_false, e2]
def Meet (p q r : Int × Int × Int × Int) : Int × Int × Int × Int × Bool :=
  let w := wrap64 (D3 p q r)
  if w = 0 then (0, 0, 0, 0, false) else
    let s := lowest (wrap64 (d3 (wrap64 (-p.2.2.2)) p.2.1 p.2.2.1 (wrap64 (-q.2.2.2)) q.2.1 q.2.2.1 (wrap64 (-r.2.2.2)) r.2.1 r.2.2.1)) (wrap64 (d3 p.1 (wrap64 (-p.2.2.2)) p.2.2.1 q.1 (wrap64 (-q.2.2.2)) q.2.2.1 r.1 (wrap64 (-r.2.2.2)) r.2.2.1))
      (wrap64 (d3 p.1 p.2.1 (wrap64 (-p.2.2.2)) q.1 q.2.1 (wrap64 (-q.2.2.2)) r.1 r.2.1 (wrap64 (-r.2.2.2)))) w
    (s.1, s.2.1, s.2.2.1, s.2.2.2, true)
theorem wrap_small {x : Int} (h : -750000000 ≤ x ∧ x ≤ 750000000) : wrap64 x = x := wrap_id (by omega) (by omega)
theorem l5Meet_ev {a b c d e f g h i j l m : Int} (hp : PlOk a b c d) (hq : PlOk e f g h) (hr : PlOk i j l m) : Ev (fun k => spec_l5Meet.f k a b c d e f g h i j l m) (Meet (a, b, c, d) (e, f, g, h) (i, j, l, m)) := by
  obtain ⟨pa, pb, pc, pd, _, _⟩ := hp
  obtain ⟨qa, qb, qc, qd, _, _⟩ := hq
  obtain ⟨ra, rb, rc, rd, _, _⟩ := hr
  have b0 := d3_bd pa pb pc qa qb qc ra rb rc
  have b1 := d3_bd (neg_bd pd) pb pc (neg_bd qd) qb qc (neg_bd rd) rb rc
  have b2 := d3_bd pa (neg_bd pd) pc qa (neg_bd qd) qc ra (neg_bd rd) rc
  have b3 := d3_bd pa pb (neg_bd pd) qa qb (neg_bd qd) ra rb (neg_bd rd)
  have e0 := wrap_small b0
  have e1 := wrap_small b1
  have e2 := wrap_small b2
  have e3 := wrap_small b3
  by_cases hz : wrap64 (d3 a b c e f g i j l) = 0
  · refine ⟨0, fun k _ => ?_⟩
    simp only [spec_l5Meet.f, l4Det3_f, Option.bind_some, hz, if_true, Meet, D3]
  · obtain ⟨K, hK⟩ := l5Spot_ev (x := wrap64 (d3 (wrap64 (-d)) b c (wrap64 (-h)) f g (wrap64 (-m)) j l)) (y := wrap64 (d3 a (wrap64 (-d)) c e (wrap64 (-h)) g i (wrap64 (-m)) l))
      (z := wrap64 (d3 a b (wrap64 (-d)) e f (wrap64 (-h)) i j (wrap64 (-m)))) (w := wrap64 (d3 a b c e f g i j l)) (by omega) (by omega) (by omega) (by omega) hz
    refine ⟨K, fun k hk => ?_⟩
    have h1 := hK k hk
    simp only at h1
    simp only [spec_l5Meet.f, l4Det3_f, Option.bind_some, hz, if_false, h1, Meet, D3]
theorem meet3_ev {a b c d e f g h i j l m : Int} (hp : PlOk a b c d) (hq : PlOk e f g h) (hr : PlOk i j l m) : Ev (fun k => impl_meet3.f k a b c d e f g h i j l m) (Meet (a, b, c, d) (e, f, g, h) (i, j, l, m)) := by
  obtain ⟨pa, pb, pc, pd, _, _⟩ := hp
  obtain ⟨qa, qb, qc, qd, _, _⟩ := hq
  obtain ⟨ra, rb, rc, rd, _, _⟩ := hr
  have b0 := d3_bd pa pb pc qa qb qc ra rb rc
  have b1 := d3_bd (neg_bd pd) pb pc (neg_bd qd) qb qc (neg_bd rd) rb rc
  have b2 := d3_bd pa (neg_bd pd) pc qa (neg_bd qd) qc ra (neg_bd rd) rc
  have b3 := d3_bd pa pb (neg_bd pd) qa qb (neg_bd qd) ra rb (neg_bd rd)
  have e0 := wrap_small b0
  have e1 := wrap_small b1
  have e2 := wrap_small b2
  have e3 := wrap_small b3
  by_cases hz : wrap64 (d3 a b c e f g i j l) = 0
  · refine ⟨0, fun k _ => ?_⟩
    simp only [impl_meet3.f, det3_f, Option.bind_some, hz, if_true, Meet, D3]
  · have hp := gcd_pos (x := wrap64 (d3 (wrap64 (-d)) b c (wrap64 (-h)) f g (wrap64 (-m)) j l)) (y := wrap64 (d3 a (wrap64 (-d)) c e (wrap64 (-h)) g i (wrap64 (-m)) l))
      (z := wrap64 (d3 a b (wrap64 (-d)) e f (wrap64 (-h)) i j (wrap64 (-m)))) (w := wrap64 (d3 a b c e f g i j l)) hz
    have hl : Nat.gcd (Nat.gcd (wrap64 (d3 (wrap64 (-d)) b c (wrap64 (-h)) f g (wrap64 (-m)) j l)).natAbs (wrap64 (d3 a (wrap64 (-d)) c e (wrap64 (-h)) g i (wrap64 (-m)) l)).natAbs) (Nat.gcd (wrap64 (d3 a b (wrap64 (-d)) e f (wrap64 (-h)) i j (wrap64 (-m)))).natAbs (wrap64 (d3 a b c e f g i j l)).natAbs) ≤ 1000000000 :=
      Nat.le_trans (Nat.gcd_le_right _ (Nat.gcd_pos_of_pos_right _ (by omega))) (Nat.le_trans (Nat.gcd_le_right _ (by omega)) (by omega))
    obtain ⟨K, hK⟩ := divisor4_ev (a := wrap64 (d3 (wrap64 (-d)) b c (wrap64 (-h)) f g (wrap64 (-m)) j l)) (b := wrap64 (d3 a (wrap64 (-d)) c e (wrap64 (-h)) g i (wrap64 (-m)) l))
      (c := wrap64 (d3 a b (wrap64 (-d)) e f (wrap64 (-h)) i j (wrap64 (-m)))) (d := wrap64 (d3 a b c e f g i j l)) (by omega) (by omega) (by omega) (by omega)
    refine ⟨K, fun k hk => ?_⟩
    have h1 := hK k hk
    simp only at h1
    simp only [impl_meet3.f, det3_f, det_f, Option.bind_some, hz, if_false, h1, Meet, D3, lowest]
    generalize Nat.gcd (Nat.gcd (wrap64 (d3 (wrap64 (-d)) b c (wrap64 (-h)) f g (wrap64 (-m)) j l)).natAbs (wrap64 (d3 a (wrap64 (-d)) c e (wrap64 (-h)) g i (wrap64 (-m)) l)).natAbs) (Nat.gcd (wrap64 (d3 a b (wrap64 (-d)) e f (wrap64 (-h)) i j (wrap64 (-m)))).natAbs (wrap64 (d3 a b c e f g i j l)).natAbs) = gg at *
    have e1 : ¬ wrap64 (-(gg : Int)) = 0 := by rw [wrap_id (by omega) (by omega)]; omega
    have e2 : ¬ ((gg : Int) = 0) := by omega
    by_cases hn : wrap64 (d3 a b c e f g i j l) < 0
    · simp only [hn, if_true, e1, if_false]
    · simp only [hn, if_false, e2]
def meetV (a b c d e f g h i j l m : Int) : Int × Int × Int × Int × Bool := if plOk a b c d = true ∧ plOk e f g h = true ∧ plOk i j l m = true then Meet (a, b, c, d) (e, f, g, h) (i, j, l, m) else (0, 0, 0, 0, false)
theorem spec_Meet3_ev (a b c d e f g h i j l m : Int) : Ev (fun k => spec_Meet3.f k a b c d e f g h i j l m) (meetV a b c d e f g h i j l m) := by
  obtain ⟨K1, h1⟩ := spec_PlaneOk_ev a b c d
  obtain ⟨K2, h2⟩ := spec_PlaneOk_ev e f g h
  obtain ⟨K3, h3⟩ := spec_PlaneOk_ev i j l m
  by_cases hall : plOk a b c d = true ∧ plOk e f g h = true ∧ plOk i j l m = true
  · obtain ⟨p, q, r⟩ := hall
    obtain ⟨K4, h4⟩ := l5Meet_ev (plOk_iff.mp p) (plOk_iff.mp q) (plOk_iff.mp r)
    refine ⟨K1 + K2 + K3 + K4 + 1, fun k hk => ?_⟩
    obtain ⟨k, rfl⟩ : ∃ x, k = x + 1 := ⟨k - 1, by omega⟩
    have g1 := h1 (k + 1) (by omega)
    have g2 := h2 (k + 1) (by omega)
    have g3 := h3 (k + 1) (by omega)
    have g4 := h4 k (by omega)
    simp only at g1 g2 g3 g4
    simp only [spec_Meet3.f, spec_Meet3.j0, g1, g2, g3, Option.bind_some, p, q, r, if_true, Bool.not_true, Bool.false_eq_true, if_false, g4, meetV, and_self]
  · refine ⟨K1 + K2 + K3 + 1, fun k hk => ?_⟩
    obtain ⟨k, rfl⟩ : ∃ x, k = x + 1 := ⟨k - 1, by omega⟩
    have g1 := h1 (k + 1) (by omega)
    have g2 := h2 (k + 1) (by omega)
    have g3 := h3 (k + 1) (by omega)
    simp only at g1 g2 g3
    simp only [spec_Meet3.f, spec_Meet3.j0, g1, g2, g3, Option.bind_some, meetV, hall, if_false]
    by_cases p : plOk a b c d = true <;> by_cases q : plOk e f g h = true <;> by_cases r : plOk i j l m = true <;> first | (simp [p, q, r]; done) | exact absurd ⟨p, q, r⟩ hall
theorem impl_Meet3_ev (a b c d e f g h i j l m : Int) : Ev (fun k => impl_Meet3.f k a b c d e f g h i j l m) (meetV a b c d e f g h i j l m) := by
  obtain ⟨K1, h1⟩ := impl_PlaneOk_ev a b c d
  obtain ⟨K2, h2⟩ := impl_PlaneOk_ev e f g h
  obtain ⟨K3, h3⟩ := impl_PlaneOk_ev i j l m
  by_cases hall : plOk a b c d = true ∧ plOk e f g h = true ∧ plOk i j l m = true
  · obtain ⟨p, q, r⟩ := hall
    obtain ⟨K4, h4⟩ := meet3_ev (plOk_iff.mp p) (plOk_iff.mp q) (plOk_iff.mp r)
    refine ⟨K1 + K2 + K3 + K4 + 1, fun k hk => ?_⟩
    obtain ⟨k, rfl⟩ : ∃ x, k = x + 1 := ⟨k - 1, by omega⟩
    have g1 := h1 (k + 1) (by omega)
    have g2 := h2 (k + 1) (by omega)
    have g3 := h3 (k + 1) (by omega)
    have g4 := h4 k (by omega)
    simp only at g1 g2 g3 g4
    simp only [impl_Meet3.f, impl_Meet3.j0, g1, g2, g3, Option.bind_some, p, q, r, if_true, Bool.not_true, Bool.false_eq_true, if_false, g4, meetV, and_self]
  · refine ⟨K1 + K2 + K3 + 1, fun k hk => ?_⟩
    obtain ⟨k, rfl⟩ : ∃ x, k = x + 1 := ⟨k - 1, by omega⟩
    have g1 := h1 (k + 1) (by omega)
    have g2 := h2 (k + 1) (by omega)
    have g3 := h3 (k + 1) (by omega)
    simp only at g1 g2 g3
    simp only [impl_Meet3.f, impl_Meet3.j0, g1, g2, g3, Option.bind_some, meetV, hall, if_false]
    by_cases p : plOk a b c d = true <;> by_cases q : plOk e f g h = true <;> by_cases r : plOk i j l m = true <;> first | (simp [p, q, r]; done) | exact absurd ⟨p, q, r⟩ hall
theorem eqSpot_self (a b c d : Int) : laws_eqSpot.f a b c d a b c d = some true := by simp [laws_eqSpot.f]
theorem FnExactMeet3_pure (a b c d e f g h i j l m : Int) (_ : (Lit.int .i64 a).wf = true) (_ : (Lit.int .i64 b).wf = true) (_ : (Lit.int .i64 c).wf = true) (_ : (Lit.int .i64 d).wf = true)
    (_ : (Lit.int .i64 e).wf = true) (_ : (Lit.int .i64 f).wf = true) (_ : (Lit.int .i64 g).wf = true) (_ : (Lit.int .i64 h).wf = true) (_ : (Lit.int .i64 i).wf = true) (_ : (Lit.int .i64 j).wf = true) (_ : (Lit.int .i64 l).wf = true) (_ : (Lit.int .i64 m).wf = true) :
    ∃ k, laws_FnExactMeet3.f k a b c d e f g h i j l m = some true := by
  obtain ⟨K, hh⟩ := Ev.and (spec_Meet3_ev a b c d e f g h i j l m) (impl_Meet3_ev a b c d e f g h i j l m)
  obtain ⟨h1, h2⟩ := hh (K + 1) (by omega)
  refine ⟨K + 1, ?_⟩
  simp only [laws_FnExactMeet3.f, laws_FnExactMeet3.j0, laws_toPlane.f, h1, h2, Option.bind_some, eqSpot_self, if_true, bne_self_eq_false, Bool.false_eq_true, if_false]
end Go.Proofs.Ytmcjkdbegkdhoaa.Pure
