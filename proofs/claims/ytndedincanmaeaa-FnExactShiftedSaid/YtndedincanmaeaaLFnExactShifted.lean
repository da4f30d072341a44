/- The law FnExactShifted, plain: no program in sight but for the printed functions. -/
import Derived.Test.YtndedincanmaeaaPrint0
import Derived.Test.YtndedincanmaeaaPrint1
import Derived.Test.YtndedincanmaeaaPrint2
import Derived.Test.YtndedincanmaeaaPrint3
import Derived.Test.YtndedincanmaeaaPrint4
import Derived.Test.YtndedincanmaeaaPrint5
import Derived.Test.YtndedincanmaeaaPrint6
import Derived.Test.YtndedincanmaeaaPrint7
import Derived.Test.YtndedincanmaeaaPrint8
import Derived.Test.YtndedincanmaeaaPrint9
import Derived.Test.YtndedincanmaeaaPrint10
import Derived.Test.YtndedincanmaeaaPrint11
namespace Go.Proofs.Ytndedincanmaeaa.Pure
open Go.RowKit Go.Proofs.Ytndedincanmaeaa.Print Go.Proofs.YtndedincanmaeaaW.PrintWords Go.Proofs.YtndedincanmaeaaW.PrintLast Go.Proofs.YtndedincanmaeaaW.PrintMore
set_option linter.unusedSimpArgs false
set_option linter.unusedVariables false
theorem wrap_id {x : Int} (h0 : -9223372036854775808 ≤ x) (h1 : x ≤ 9223372036854775807) : wrap64 x = x := by
  unfold wrap64; omega
theorem Ev.of_bind {α β : Type} {g : Nat → Option α} {f : Nat → α → Option β} {a : α} {r : β} (h : Ev g a) (k : Ev (fun n => f n a) r) : Ev (fun n => (g n).bind (f n)) r := Ev.bind h k
theorem Ev.and {α β : Type} {g : Nat → Option α} {f : Nat → Option β} {a : α} {b : β} (h : Ev g a) (k : Ev f b) : ∃ K, ∀ n, K ≤ n → g n = some a ∧ f n = some b := by
  obtain ⟨K1, h1⟩ := h
  obtain ⟨K2, h2⟩ := k
  exact ⟨K1 + K2, fun n hn => ⟨h1 n (by omega), h2 n (by omega)⟩⟩
theorem l3Abs_f {a : Int} (h : -9223372036854775807 ≤ a) (h1 : a ≤ 9223372036854775807) : spec_l3Abs.f a = some (a.natAbs : Int) := by
  unfold spec_l3Abs.f
  by_cases c : a < 0
  · rw [if_pos c, wrap_id (by omega) (by omega)]; congr 1; omega
  · rw [if_neg c]; congr 1; omega
theorem l3Gcd_l0 : ∀ (b a k : Nat), b < k → spec_l3Gcd.l0 k (a : Int) (b : Int) = some ((Nat.gcd a b : Nat) : Int) := by
  intro b
  induction b using Nat.strongRecOn with
  | _ b ih =>
    intro a k hk
    obtain ⟨k, rfl⟩ : ∃ m, k = m + 1 := ⟨k - 1, by omega⟩
    unfold spec_l3Gcd.l0
    by_cases c : b = 0
    · subst c; rw [if_neg (by omega)]; simp
    · rw [if_pos (by omega), if_neg (by omega), show Int.tmod (a : Int) (b : Int) = ((a % b : Nat) : Int) from rfl]
      have hlt : a % b < b := Nat.mod_lt _ (by omega)
      rw [ih (a % b) hlt b k (by omega)]
      congr 2
      rw [Nat.gcd_comm a b, Nat.gcd_rec b a]
      exact Nat.gcd_comm _ _
theorem l3Gcd_ev {a b : Int} (h : -9223372036854775807 ≤ a) (h1 : a ≤ 9223372036854775807) (h2 : -9223372036854775807 ≤ b) (h3 : b ≤ 9223372036854775807) :
    Ev (fun k => spec_l3Gcd.f k a b) ((Nat.gcd a.natAbs b.natAbs : Nat) : Int) := by
  refine ⟨b.natAbs + 1, fun k hk => ?_⟩
  simp only [spec_l3Gcd.f, l3Abs_f h h1, l3Abs_f h2 h3, Option.bind_some]
  exact l3Gcd_l0 _ _ _ (by omega)
theorem mx_abs {x : Int} (h : -9223372036854775807 ≤ x) (h1 : x ≤ 9223372036854775807) : mx x (wrap64 (-x)) = (x.natAbs : Int) := by
  rw [wrap_id (by omega) (by omega)]; unfold mx; split <;> omega
theorem divisor_l1 {xs : List Int} {len i : Int} {r : Int} : ∀ (n g : Nat), Ev (fun k => impl_divisor.l0 k ((Nat.gcd g n : Nat) : Int) xs len (wrap64 (i + 1))) r → Ev (fun k => impl_divisor.l1 k (g : Int) (n : Int) xs len i) r := by
  intro n
  induction n using Nat.strongRecOn with
  | _ n ih =>
    intro g h
    by_cases c : n = 0
    · subst c
      refine Ev.step (fun k => ?_) h
      simp [impl_divisor.l1]
    · refine Ev.step (f := fun k => impl_divisor.l1 k (n : Int) ((g % n : Nat) : Int) xs len i) (fun k => ?_) (ih (g % n) (Nat.mod_lt _ (by omega)) n ?_)
      · simp only [impl_divisor.l1]; rw [if_neg (by omega)]; rfl
      · have e : Nat.gcd n (g % n) = Nat.gcd g n := by rw [Nat.gcd_comm g n, Nat.gcd_rec n g]; exact Nat.gcd_comm _ _
        rw [e]; exact h
theorem divisor_l0 {xs : List Int} {len i : Int} {r : Int} {g : Nat} (h0 : 0 ≤ i) (h1 : i < len) (h2 : i < (xs.length : Int)) (b0 : -9223372036854775807 ≤ rd xs i) (b1 : rd xs i ≤ 9223372036854775807)
    (h : Ev (fun k => impl_divisor.l0 k ((Nat.gcd g (rd xs i).natAbs : Nat) : Int) xs len (wrap64 (i + 1))) r) : Ev (fun k => impl_divisor.l0 k (g : Int) xs len i) r := by
  refine Ev.step (f := fun k => impl_divisor.l1 k (g : Int) ((rd xs i).natAbs : Int) xs len i) (fun k => ?_) (divisor_l1 _ _ h)
  simp only [impl_divisor.l0]; rw [if_pos h1, if_pos h0, if_pos h2, mx_abs b0 b1]
theorem divisor4_ev {a b c d : Int} (ha : -9223372036854775807 ≤ a ∧ a ≤ 9223372036854775807) (hb : -9223372036854775807 ≤ b ∧ b ≤ 9223372036854775807) (hc : -9223372036854775807 ≤ c ∧ c ≤ 9223372036854775807) (hd : -9223372036854775807 ≤ d ∧ d ≤ 9223372036854775807) :
    Ev (fun k => impl_divisor.f k [a, b, c, d]) ((Nat.gcd (Nat.gcd a.natAbs b.natAbs) (Nat.gcd c.natAbs d.natAbs) : Nat) : Int) := by
  have e : Nat.gcd (Nat.gcd a.natAbs b.natAbs) (Nat.gcd c.natAbs d.natAbs) = Nat.gcd (Nat.gcd (Nat.gcd (Nat.gcd 0 a.natAbs) b.natAbs) c.natAbs) d.natAbs := by
    rw [Nat.gcd_zero_left, Nat.gcd_assoc (Nat.gcd a.natAbs b.natAbs)]
  rw [e]
  refine Ev.congr (f := fun k => impl_divisor.l0 k ((0 : Nat) : Int) [a, b, c, d] 4 0) (fun k => rfl) ?_
  refine divisor_l0 (by omega) (by omega) (by simp) (by simpa [rd] using ha.1) (by simpa [rd] using ha.2) ?_
  rw [show wrap64 (0 + 1) = 1 from wrap_id (by omega) (by omega)]
  refine divisor_l0 (by omega) (by omega) (by simp) (by simpa [rd] using hb.1) (by simpa [rd] using hb.2) ?_
  rw [show wrap64 (1 + 1) = 2 from wrap_id (by omega) (by omega)]
  refine divisor_l0 (by omega) (by omega) (by simp) (by simpa [rd] using hc.1) (by simpa [rd] using hc.2) ?_
  rw [show wrap64 (2 + 1) = 3 from wrap_id (by omega) (by omega)]
  refine divisor_l0 (by omega) (by omega) (by simp) (by simpa [rd] using hd.1) (by simpa [rd] using hd.2) ?_
  rw [show wrap64 (3 + 1) = 4 from wrap_id (by omega) (by omega)]
  refine ⟨1, fun k hk => ?_⟩
  obtain ⟨k, rfl⟩ : ∃ m, k = m + 1 := ⟨k - 1, by omega⟩
  simp [impl_divisor.l0, rd]
def PlOk (a b c d : Int) : Prop := (-500 ≤ a ∧ a ≤ 500) ∧ (-500 ≤ b ∧ b ≤ 500) ∧ (-500 ≤ c ∧ c ≤ 500) ∧ (-500 ≤ d ∧ d ≤ 500) ∧ (a ≠ 0 ∨ b ≠ 0 ∨ c ≠ 0) ∧ Nat.gcd (Nat.gcd a.natAbs b.natAbs) (Nat.gcd c.natAbs d.natAbs) = 1
instance (a b c d : Int) : Decidable (PlOk a b c d) := by unfold PlOk; infer_instance
def plOk (a b c d : Int) : Bool := decide (PlOk a b c d)
theorem plOk_iff {a b c d : Int} : plOk a b c d = true ↔ PlOk a b c d := by simp [plOk]
theorem l1In_f (a b c : Int) : spec_l1In.f a b c = some (decide (b ≤ a ∧ a ≤ c)) := by
  unfold spec_l1In.f
  split
  · rename_i h; exact congrArg some (decide_eq_decide.mpr (by omega))
  · rename_i h; exact congrArg some (decide_eq_false (by omega)).symm
theorem inRange_f (a b c : Int) : impl_inRange.f a b c = some (decide (b ≤ a ∧ a ≤ c)) := by
  unfold impl_inRange.f
  split
  · rename_i h; exact congrArg some (decide_eq_decide.mpr (by omega))
  · rename_i h; exact congrArg some (decide_eq_false (by omega)).symm
theorem plOk_in {a b c d : Int} (hr : (-500 ≤ a ∧ a ≤ 500) ∧ (-500 ≤ b ∧ b ≤ 500) ∧ (-500 ≤ c ∧ c ≤ 500) ∧ (-500 ≤ d ∧ d ≤ 500)) :
    plOk a b c d = (decide (a ≠ 0 ∨ b ≠ 0 ∨ c ≠ 0) && (((Nat.gcd (Nat.gcd a.natAbs b.natAbs) (Nat.gcd c.natAbs d.natAbs) : Nat) : Int) == 1)) := by
  obtain ⟨h1, h2, h3, h4⟩ := hr
  have e : ∀ n : Nat, (((n : Int) == 1) : Bool) = decide (n = 1) := by intro n; by_cases h : n = 1 <;> simp [h]; omega
  rw [e]
  simp only [plOk, PlOk, h1, h2, h3, h4, and_self, true_and, Bool.decide_and]
theorem spec_PlaneOk_ev (a b c d : Int) : Ev (fun k => spec_PlaneOk.f k a b c d) (plOk a b c d) := by
  by_cases hr : (-500 ≤ a ∧ a ≤ 500) ∧ (-500 ≤ b ∧ b ≤ 500) ∧ (-500 ≤ c ∧ c ≤ 500) ∧ (-500 ≤ d ∧ d ≤ 500)
  · have ⟨ha, hb, hc, hd⟩ := hr
    obtain ⟨K1, h1⟩ := l3Gcd_ev (a := a) (b := b) (by omega) (by omega) (by omega) (by omega)
    obtain ⟨K2, h2⟩ := l3Gcd_ev (a := c) (b := d) (by omega) (by omega) (by omega) (by omega)
    have la : Nat.gcd a.natAbs b.natAbs ≤ 500 := by
      by_cases z : a = 0
      · subst z; rw [Int.natAbs_zero, Nat.gcd_zero_left]; omega
      · exact Nat.le_trans (Nat.gcd_le_left _ (by omega)) (by omega)
    have lc : Nat.gcd c.natAbs d.natAbs ≤ 500 := by
      by_cases z : c = 0
      · subst z; rw [Int.natAbs_zero, Nat.gcd_zero_left]; omega
      · exact Nat.le_trans (Nat.gcd_le_left _ (by omega)) (by omega)
    obtain ⟨K3, h3⟩ := l3Gcd_ev (a := ((Nat.gcd a.natAbs b.natAbs : Nat) : Int)) (b := ((Nat.gcd c.natAbs d.natAbs : Nat) : Int)) (by omega) (by omega) (by omega) (by omega)
    refine ⟨K1 + K2 + K3, fun k hk => ?_⟩
    have g1 : spec_l3Gcd.f k a b = _ := h1 k (by omega)
    have g2 : spec_l3Gcd.f k c d = _ := h2 k (by omega)
    have g3 : spec_l3Gcd.f k ((Nat.gcd a.natAbs b.natAbs : Nat) : Int) ((Nat.gcd c.natAbs d.natAbs : Nat) : Int) = _ := h3 k (by omega)
    simp only [Int.natAbs_natCast] at g3
    simp only [spec_PlaneOk.f, spec_l3In.f, l1In_f, Option.bind_some, ha, hb, hc, hd, and_self, decide_true, if_true, g1, g2, g3, plOk_in hr]
    by_cases za : a = 0 <;> by_cases zb : b = 0 <;> by_cases zc : c = 0 <;> simp [za, zb, zc]
  · refine ⟨0, fun k _ => ?_⟩
    have hz : plOk a b c d = false := by simp only [plOk, decide_eq_false_iff_not]; intro h; exact hr ⟨h.1, h.2.1, h.2.2.1, h.2.2.2.1⟩
    rw [hz]
    simp only [spec_PlaneOk.f, spec_l3In.f, l1In_f, Option.bind_some]
    by_cases ca : (-500 ≤ a ∧ a ≤ 500) <;> by_cases cb : (-500 ≤ b ∧ b ≤ 500) <;> by_cases cc : (-500 ≤ c ∧ c ≤ 500) <;> by_cases cd : (-500 ≤ d ∧ d ≤ 500) <;> first | (simp [ca, cb, cc, cd]; done) | exact absurd ⟨ca, cb, cc, cd⟩ hr
theorem impl_PlaneOk_ev (a b c d : Int) : Ev (fun k => impl_PlaneOk.f k a b c d) (plOk a b c d) := by
  by_cases hr : (-500 ≤ a ∧ a ≤ 500) ∧ (-500 ≤ b ∧ b ≤ 500) ∧ (-500 ≤ c ∧ c ≤ 500) ∧ (-500 ≤ d ∧ d ≤ 500)
  · have ⟨ha, hb, hc, hd⟩ := hr
    obtain ⟨K1, h1⟩ := divisor4_ev (a := a) (b := b) (c := c) (d := d) (by omega) (by omega) (by omega) (by omega)
    refine ⟨K1 + 1, fun k hk => ?_⟩
    obtain ⟨k, rfl⟩ : ∃ m, k = m + 1 := ⟨k - 1, by omega⟩
    have g1 : impl_divisor.f k [a, b, c, d] = _ := h1 k (by omega)
    simp only [impl_PlaneOk.f, impl_PlaneOk.j0, impl_isCoef.f, inRange_f, Option.bind_some, ha, hb, hc, hd, and_self, decide_true, if_true, Bool.not_true, Bool.false_eq_true, if_false, g1, plOk_in hr]
    by_cases za : a = 0 <;> by_cases zb : b = 0 <;> by_cases zc : c = 0 <;> simp [za, zb, zc]
  · refine ⟨1, fun k hk => ?_⟩
    obtain ⟨k, rfl⟩ : ∃ m, k = m + 1 := ⟨k - 1, by omega⟩
    have hz : plOk a b c d = false := by simp only [plOk, decide_eq_false_iff_not]; intro h; exact hr ⟨h.1, h.2.1, h.2.2.1, h.2.2.2.1⟩
    rw [hz]
    simp only [impl_PlaneOk.f, impl_PlaneOk.j0, impl_isCoef.f, inRange_f, Option.bind_some]
    by_cases ca : (-500 ≤ a ∧ a ≤ 500) <;> by_cases cb : (-500 ≤ b ∧ b ≤ 500) <;> by_cases cc : (-500 ≤ c ∧ c ≤ 500) <;> by_cases cd : (-500 ≤ d ∧ d ≤ 500) <;> first | (simp [ca, cb, cc, cd]; done) | exact absurd ⟨ca, cb, cc, cd⟩ hr
theorem wr_add_l (a b : Int) : wrap64 (wrap64 a + b) = wrap64 (a + b) := by unfold wrap64; omega
theorem wr_add_r (a b : Int) : wrap64 (a + wrap64 b) = wrap64 (a + b) := by unfold wrap64; omega
theorem wr_sub_r (a b : Int) : wrap64 (a - wrap64 b) = wrap64 (a - b) := by unfold wrap64; omega
theorem mul_bd {x y X Y : Int} (hx : -X ≤ x ∧ x ≤ X) (hy : -Y ≤ y ∧ y ≤ Y) : -(X * Y) ≤ x * y ∧ x * y ≤ X * Y := by
  have hX : 0 ≤ X := by omega
  have hY : 0 ≤ Y := by omega
  have h1 : x.natAbs * y.natAbs ≤ X.natAbs * Y.natAbs := Nat.mul_le_mul (by omega) (by omega)
  have h2 : (x * y).natAbs = x.natAbs * y.natAbs := Int.natAbs_mul x y
  have h3 : (X * Y).natAbs = X.natAbs * Y.natAbs := Int.natAbs_mul X Y
  have h4 : 0 ≤ X * Y := Int.mul_nonneg hX hY
  omega
def cmpI (a b : Int) : Int := if a < b then -1 else if b < a then 1 else 0
theorem spec_PtOk_f (a b c : Int) : spec_PtOk.f a b c = some (decide ((-1000000 ≤ a ∧ a ≤ 1000000) ∧ (-1000000 ≤ b ∧ b ≤ 1000000) ∧ (-1000000 ≤ c ∧ c ≤ 1000000))) := by
  simp only [spec_PtOk.f, l1In_f, Option.bind_some]
  by_cases ha : (-1000000 ≤ a ∧ a ≤ 1000000) <;> by_cases hb : (-1000000 ≤ b ∧ b ≤ 1000000) <;> by_cases hc : (-1000000 ≤ c ∧ c ≤ 1000000) <;> simp [ha, hb, hc]
theorem impl_PtOk_f (a b c : Int) : impl_PtOk.f a b c = some (decide ((-1000000 ≤ a ∧ a ≤ 1000000) ∧ (-1000000 ≤ b ∧ b ≤ 1000000) ∧ (-1000000 ≤ c ∧ c ≤ 1000000))) := by
  simp only [impl_PtOk.f, inRange_f, Option.bind_some]
  by_cases ha : (-1000000 ≤ a ∧ a ≤ 1000000) <;> by_cases hb : (-1000000 ≤ b ∧ b ≤ 1000000) <;> by_cases hc : (-1000000 ≤ c ∧ c ≤ 1000000) <;> simp [ha, hb, hc]
theorem eqPlane_self (a b c d : Int) : laws_eqPlane.f a b c d a b c d = some true := by simp [laws_eqPlane.f]
def d3 (a b c e f g i j l : Int) : Int := a * (f * l - g * j) + b * (g * i - e * l) + c * (e * j - f * i)
theorem Ev.succ {α : Type} {f g : Nat → Option α} {r : α} (h : ∀ k, f (k + 1) = g k) (hg : Ev g r) : Ev f r := by
  obtain ⟨K, h'⟩ := hg
  refine ⟨K + 1, fun k hk => ?_⟩
  obtain ⟨k, rfl⟩ : ∃ m, k = m + 1 := ⟨k - 1, by omega⟩
  show f (k + 1) = some r
  rw [h]
  exact h' k (by omega)
def val : List Int → Int
  | [] => 0
  | x :: l => x + 10000 * val l
def DG (l : List Int) : Prop := ∀ x ∈ l, 0 ≤ x ∧ x ≤ 9999
theorem DG.tail {x : Int} {l : List Int} (h : DG (x :: l)) : DG l := fun y hy => h y (List.mem_cons_of_mem _ hy)
theorem DG.head {x : Int} {l : List Int} (h : DG (x :: l)) : 0 ≤ x ∧ x ≤ 9999 := h x List.mem_cons_self
theorem DG.nil : DG [] := fun x h => by cases h
theorem DG.cons {x : Int} {l : List Int} (hx : 0 ≤ x ∧ x ≤ 9999) (h : DG l) : DG (x :: l) := fun y hy => by
  rcases List.mem_cons.mp hy with rfl | hy
  · exact hx
  · exact h y hy
theorem DG.app {l m : List Int} (h : DG l) (g : DG m) : DG (l ++ m) := fun y hy => (List.mem_append.mp hy).elim (h y) (g y)
theorem DG.take {l : List Int} (h : DG l) (n : Nat) : DG (l.take n) := fun y hy => h y (List.mem_of_mem_take hy)
theorem DG.drop {l : List Int} (h : DG l) (n : Nat) : DG (l.drop n) := fun y hy => h y (List.mem_of_mem_drop hy)
theorem val_nn : ∀ {l : List Int}, DG l → 0 ≤ val l
  | [], _ => Int.le_refl _
  | x :: l, h => by have h1 := val_nn h.tail; have h2 := h.head; simp only [val]; omega
def P (n : Nat) : Int := ((10000 ^ n : Nat) : Int)
theorem P_zero : P 0 = 1 := rfl
theorem P_succ (n : Nat) : P (n + 1) = 10000 * P n := by simp only [P, Nat.pow_succ]; omega
theorem P_pos (n : Nat) : 0 < P n := by
  have : 0 < 10000 ^ n := Nat.pos_of_ne_zero (by simp)
  simp only [P]; omega
theorem val_lt : ∀ {l : List Int}, DG l → val l < P l.length
  | [], _ => by simp [val, P]
  | x :: l, h => by
    have h1 := val_lt h.tail; have h2 := h.head
    rw [List.length_cons, P_succ]; simp only [val]; omega
theorem val_app : ∀ (l m : List Int), val (l ++ m) = val l + P l.length * val m
  | [], m => by simp [val, P]
  | x :: l, m => by
    rw [List.cons_append, List.length_cons, P_succ]
    simp only [val, val_app l m, Int.mul_add, Int.mul_assoc]; omega
def dg (n : Nat) : List Int := if h : n = 0 then [] else ((n % 10000 : Nat) : Int) :: dg (n / 10000)
termination_by n
decreasing_by omega
theorem dg_zero : dg 0 = [] := by unfold dg; simp
theorem dg_pos {n : Nat} (h : 0 < n) : dg n = ((n % 10000 : Nat) : Int) :: dg (n / 10000) := by
  conv => lhs; unfold dg
  rw [dif_neg (by omega)]
theorem dg_DG (n : Nat) : DG (dg n) := by
  induction n using Nat.strongRecOn with
  | _ n ih =>
    by_cases h : n = 0
    · subst h; rw [dg_zero]; exact DG.nil
    · rw [dg_pos (by omega)]
      exact DG.cons (by omega) (ih _ (by omega))
theorem dg_val (n : Nat) : val (dg n) = n := by
  induction n using Nat.strongRecOn with
  | _ n ih =>
    by_cases h : n = 0
    · subst h; rw [dg_zero]; rfl
    · rw [dg_pos (by omega)]
      simp only [val, ih _ (show n / 10000 < n by omega)]; omega
theorem dg_len {n : Nat} : ∀ {k : Nat}, n < 10000 ^ k → (dg n).length ≤ k := by
  induction n using Nat.strongRecOn with
  | _ n ih =>
    intro k hk
    by_cases h : n = 0
    · subst h; rw [dg_zero]; exact Nat.zero_le _
    · rw [dg_pos (by omega), List.length_cons]
      cases k with
      | zero => simp at hk; omega
      | succ k =>
        have := ih (n / 10000) (by omega) (k := k) (by rw [Nat.pow_succ] at hk; omega)
        omega
theorem dg_ne {n : Nat} : dg n = [] ↔ n = 0 := by
  constructor
  · intro h
    have := dg_val n
    rw [h] at this; simp only [val] at this; omega
  · rintro rfl; exact dg_zero
theorem dg_of : ∀ {l : List Int}, DG l → (∀ h : l ≠ [], l.getLast h ≠ 0) → dg (val l).toNat = l
  | [], _, _ => by simp [val, dg_zero]
  | x :: l, h, hl => by
    have h1 := val_nn h.tail; have h2 := h.head
    by_cases e : l = []
    · subst e
      have hx := hl (by simp)
      simp only [List.getLast_singleton] at hx
      simp only [val]
      rw [dg_pos (by omega)]
      have : (x + 10000 * 0).toNat / 10000 = 0 := by omega
      rw [this, dg_zero]
      congr 1; omega
    · have ih := dg_of h.tail (fun h' => by
        have := hl (by simp)
        rwa [List.getLast_cons h'] at this)
      have hp : 0 < val l := by
        by_cases z : val l = 0
        · rw [z] at ih; simp [dg_zero] at ih; exact absurd ih e
        · omega
      simp only [val]
      rw [dg_pos (by omega), show (x + 10000 * val l).toNat / 10000 = (val l).toNat by omega, ih]
      congr 1; omega
theorem dg_last {n : Nat} (h : dg n ≠ []) : (dg n).getLast h ≠ 0 := by
  induction n using Nat.strongRecOn with
  | _ n ih =>
    have hn : n ≠ 0 := fun e => h (dg_ne.mpr e)
    by_cases e : n / 10000 = 0
    · have : dg n = [((n % 10000 : Nat) : Int)] := by rw [dg_pos (by omega), e, dg_zero]
      simp only [this, List.getLast_singleton]; omega
    · have hd : dg (n / 10000) ≠ [] := fun h => e (dg_ne.mp h)
      have := ih _ (by omega) hd
      simp only [dg_pos (show 0 < n by omega)]
      rw [List.getLast_cons hd]; exact this
theorem val_take_succ {l : List Int} {i : Nat} (h : i < l.length) : val (l.take (i + 1)) = val (l.take i) + P i * l[i] := by
  rw [List.take_succ_eq_append_getElem h, val_app, List.length_take, Nat.min_eq_left (by omega)]
  simp only [val, Int.mul_zero, Int.add_zero]
theorem val_drop {l : List Int} {i : Nat} (h : i < l.length) : val (l.drop i) = l[i] + 10000 * val (l.drop (i + 1)) := by
  rw [List.drop_eq_getElem_cons h]; rfl
theorem val_set : ∀ {l : List Int} {i : Nat} (h : i < l.length) (y : Int), val (l.set i y) = val l + P i * (y - l[i])
  | x :: l, 0, _, y => by simp only [List.set_cons_zero, val, P_zero, List.getElem_cons_zero]; omega
  | x :: l, i + 1, h, y => by
    have := val_set (l := l) (i := i) (by simpa using h) y
    simp only [List.set_cons_succ, val, this, P_succ, List.getElem_cons_succ, Int.mul_add, Int.mul_assoc]; omega
theorem u64_id {n : Int} (h0 : 0 ≤ n) (h1 : n < 18446744073709551616) : IntKind.u64.wrap n = n := by
  simp [IntKind.wrap, IntKind.bits, IntKind.signed]; omega
theorem tdiv_e {a b : Int} (h : 0 ≤ a) : Int.tdiv a b = a / b := Int.tdiv_eq_ediv_of_nonneg h
theorem tmod_e {a b : Int} (h : 0 ≤ a) : Int.tmod a b = a % b := Int.tmod_eq_emod_of_nonneg h
theorem rd_get {l : List Int} {i : Nat} (h : i < l.length) : rd l (i : Int) = l[i] := by simp [rd, List.getD_eq_getElem?_getD, h]
def numV (neg : Bool) (d : List Int) : Bool × List Int := (neg && decide (val d ≠ 0), dg (val d).toNat)
theorem l1Num_l0 {neg : Bool} {d : List Int} (hd : DG d) (hl : d.length ≤ 1000) : ∀ m : Nat, m ≤ d.length → Ev (fun k => spec_l1Num.l0 k neg d (m : Int)) (numV neg (d.take m)) := by
  intro m
  induction m with
  | zero =>
    intro _
    refine ⟨2, fun k hk => ?_⟩
    obtain ⟨k, rfl⟩ : ∃ m, k = m + 2 := ⟨k - 2, by omega⟩
    show spec_l1Num.l0 (k + 2) neg d ((0 : Nat) : Int) = _
    unfold spec_l1Num.l0
    rw [if_neg (by omega)]
    unfold spec_l1Num.j1
    rw [if_neg (by simp)]
    have e : numV neg (d.take 0) = (false, []) := by simp [numV, val, dg_zero]
    rw [e]
    cases neg
    · rw [if_neg (by simp)]
      simp only [Option.bind_some]
      rw [if_pos (by omega), if_pos (by omega), if_pos (by simp)]; rfl
    · rw [if_pos rfl]
      simp only [Option.bind_some]
      rw [if_pos (by omega), if_pos (by omega), if_pos (by simp)]; rfl
  | succ m ih =>
    intro hm
    have hm' : m < d.length := by omega
    have w : wrap64 (((m + 1 : Nat) : Int) - 1) = (m : Int) := by rw [wrap_id (by omega) (by omega)]; omega
    refine Ev.succ (g := fun k => spec_l1Num.j1 k neg d ((m + 1 : Nat) : Int) (d[m] == 0)) (fun k => ?_) ?_
    · show spec_l1Num.l0 (k + 1) neg d ((m + 1 : Nat) : Int) = _
      conv => lhs; unfold spec_l1Num.l0
      rw [if_pos (by omega), w, if_pos (by omega), if_pos (by omega), rd_get hm']
    have hv := val_take_succ hm'
    by_cases c : d[m] = 0
    · refine Ev.succ (fun k => ?_) (by
        have e : numV neg (d.take (m + 1)) = numV neg (d.take m) := by simp only [numV]; rw [hv, c, Int.mul_zero, Int.add_zero]
        rw [e]; exact ih (by omega))
      show spec_l1Num.j1 (k + 1) neg d ((m + 1 : Nat) : Int) (d[m] == 0) = _
      conv => lhs; unfold spec_l1Num.j1
      rw [if_pos (by simp [c]), w]
    · refine ⟨1, fun k hk => ?_⟩
      obtain ⟨k, rfl⟩ : ∃ m, k = m + 1 := ⟨k - 1, by omega⟩
      show spec_l1Num.j1 (k + 1) neg d ((m + 1 : Nat) : Int) (d[m] == 0) = _
      unfold spec_l1Num.j1
      rw [if_neg (by simp [c])]
      have hp : 0 ≤ d[m] ∧ d[m] ≤ 9999 := hd _ (List.getElem_mem hm')
      have hn := val_nn (hd.take m)
      have hP := P_pos m
      have hpos : 0 < P m * d[m] := Int.mul_pos hP (by omega)
      have e2 : dg (val (d.take (m + 1))).toNat = d.take (m + 1) := by
        refine dg_of (hd.take _) (fun h => ?_)
        have e3 : (d.take (m + 1)).length - 1 = m := by rw [List.length_take]; omega
        rw [List.getLast_eq_getElem, List.getElem_take]; simp only [e3]; exact c
      have e : numV neg (d.take (m + 1)) = (neg, d.take (m + 1)) := by
        simp only [numV, e2]
        rw [decide_eq_true (by omega), Bool.and_true]
      rw [e]
      cases neg
      · rw [if_neg (by simp)]
        simp only [Option.bind_some]
        rw [if_pos (by omega), if_pos (by omega), if_pos (by simp; omega)]; simp
      · rw [if_pos rfl]
        simp only [Option.bind_some]
        rw [if_pos (by omega), if_pos (by omega), if_pos (by simp; omega)]; simp
theorem l1Num_ev {neg : Bool} {d : List Int} (hd : DG d) (hl : d.length ≤ 1000) : Ev (fun k => spec_l1Num.f k neg d) (numV neg d) := by
  have := l1Num_l0 (neg := neg) hd hl d.length (Nat.le_refl _)
  rw [List.take_length] at this
  exact Ev.congr (fun k => rfl) this
theorem Of_l0 {x : Int} : ∀ (n : Nat) (acc : List Int), n < 9223372036854775808 → DG acc → acc.length + (dg n).length ≤ 900 → Ev (fun k => spec_Of.l0 k x (n : Int) acc) (numV (decide (x < 0)) (acc ++ dg n)) := by
  intro n
  induction n using Nat.strongRecOn with
  | _ n ih =>
    intro acc hn ha hl
    by_cases h : n = 0
    · subst h
      rw [dg_zero] at hl
      rw [List.length_nil] at hl
      rw [dg_zero, List.append_nil]
      refine Ev.succ (fun k => ?_) (l1Num_ev (neg := decide (x < 0)) ha (by omega))
      show spec_Of.l0 (k + 1) x ((0 : Nat) : Int) acc = _
      conv => lhs; unfold spec_Of.l0
      rw [if_neg (by omega)]
      cases spec_l1Num.f k (decide (x < 0)) acc <;> rfl
    · have hd := dg_pos (show 0 < n by omega)
      rw [hd] at hl ⊢
      rw [List.length_cons] at hl
      rw [show acc ++ ((n % 10000 : Nat) : Int) :: dg (n / 10000) = (acc ++ [((n % 10000 : Nat) : Int)]) ++ dg (n / 10000) by simp]
      refine Ev.succ (fun k => ?_) (ih (n / 10000) (by omega) (acc ++ [((n % 10000 : Nat) : Int)]) (by omega) (ha.app (DG.cons (by omega) DG.nil)) (by simp; omega))
      show spec_Of.l0 (k + 1) x (n : Int) acc = _
      conv => lhs; unfold spec_Of.l0
      rw [if_pos (by omega), if_pos (by omega), tdiv_e (by omega), tmod_e (by omega), u64_id (by omega) (by omega), wrap_id (by omega) (by omega)]
      congr 1
theorem dg_len16 {n : Nat} (h : n < 10000000000000000) : (dg n).length ≤ 4 := dg_len (k := 4) (by omega)
theorem numV_dg (neg : Bool) (n : Nat) : numV neg (dg n) = (neg && decide (n ≠ 0), dg n) := by
  simp only [numV, dg_val, Int.toNat_natCast]
  congr 2
  rw [decide_eq_decide]; omega
theorem Of_ev {x : Int} (h : x.natAbs < 10000000000000000) : Ev (fun k => spec_Of.f k x) (decide (x < 0), dg x.natAbs) := by
  have key := Of_l0 (x := x) x.natAbs [] (by omega) DG.nil (by have := dg_len16 h; simp; omega)
  rw [List.nil_append, numV_dg, show (decide (x < 0) && decide (x.natAbs ≠ 0)) = decide (x < 0) from by rw [Bool.eq_iff_iff]; simp; omega] at key
  have j : Ev (fun k => spec_Of.j0 k x (x.natAbs : Int)) (decide (x < 0), dg x.natAbs) := Ev.succ (fun k => rfl) key
  refine Ev.congr (fun k => ?_) j
  show spec_Of.f k x = _
  unfold spec_Of.f
  by_cases c : x < 0
  · rw [if_pos c]; congr 1
    rw [wrap_id (x := x + 1) (by omega) (by omega), wrap_id (x := -(x + 1)) (by omega) (by omega), u64_id (n := -(x + 1)) (by omega) (by omega), u64_id (by omega) (by omega)]; omega
  · rw [if_neg c]; congr 1
    rw [u64_id (by omega) (by omega)]; omega
theorem NumOk_l0 {neg : Bool} {d : List Int} (hd : DG d) (hl : d.length ≤ 100) (hlast : ∀ h : d ≠ [], d.getLast h ≠ 0) (hneg : neg = true → d ≠ []) : ∀ (q i : Nat), d.length - i = q → i ≤ d.length → Ev (fun k => spec_NumOk.l0 k (d.length : Int) (i : Int) neg d) true := by
  intro q
  induction q with
  | zero =>
    intro i hq hi
    have e : i = d.length := by omega
    subst e
    refine ⟨2, fun k hk => ?_⟩
    obtain ⟨k, rfl⟩ : ∃ m, k = m + 2 := ⟨k - 2, by omega⟩
    show spec_NumOk.l0 (k + 2) (d.length : Int) (d.length : Int) neg d = _
    unfold spec_NumOk.l0
    rw [if_neg (by omega)]
    unfold spec_NumOk.j1
    rw [if_neg (by simp), if_pos (by omega)]
    by_cases e0 : d = []
    · subst e0
      have : neg = false := by
        cases neg
        · rfl
        · exact absurd rfl (hneg rfl)
      subst this
      rw [if_pos (by simp), if_neg (by simp)]
    · have hp : 0 < d.length := List.length_pos_iff.mpr e0
      have w : wrap64 ((d.length : Int) - 1) = ((d.length - 1 : Nat) : Int) := by rw [wrap_id (by omega) (by omega)]; omega
      have hr : rd d ((d.length - 1 : Nat) : Int) ≠ 0 := by
        rw [rd_get (by omega)]
        have := hlast e0
        rwa [List.getLast_eq_getElem] at this
      rw [if_neg (by omega), if_pos (by omega), w, if_pos (by omega), if_pos (by omega)]
      simp [hr]
  | succ q ih =>
    intro i hq hi
    have hi' : i < d.length := by omega
    have hp : 0 ≤ d[i] ∧ d[i] ≤ 9999 := hd _ (List.getElem_mem hi')
    refine Ev.succ (g := fun k => spec_NumOk.j1 k (d.length : Int) (i : Int) true neg d) (fun k => ?_) ?_
    · show spec_NumOk.l0 (k + 1) (d.length : Int) (i : Int) neg d = _
      conv => lhs; unfold spec_NumOk.l0
      rw [if_pos (by omega), decide_eq_true (by omega)]
    refine Ev.succ (fun k => ?_) (ih (i + 1) (by omega) (by omega))
    show spec_NumOk.j1 (k + 1) (d.length : Int) (i : Int) true neg d = _
    conv => lhs; unfold spec_NumOk.j1
    rw [if_pos rfl, if_pos (by omega), if_pos (by omega), rd_get hi', l1In_f, Option.bind_some, decide_eq_true hp, if_pos rfl, wrap_id (by omega) (by omega)]; rfl
theorem NumOk_dg {neg : Bool} {n : Nat} (hn : n < 10000000000000000) (hneg : neg = true → n ≠ 0) : Ev (fun k => spec_NumOk.f k neg (dg n)) true :=
  Ev.congr (f := fun k => spec_NumOk.l0 k ((dg n).length : Int) ((0 : Nat) : Int) neg (dg n)) (fun k => rfl) (NumOk_l0 (dg_DG n) (Nat.le_trans (dg_len16 hn) (by omega)) (fun h => dg_last h) (fun h => fun e => hneg h (dg_ne.mp e)) (dg n).length 0 (by omega) (by omega))
theorem mag_dg {neg : Bool} {n : Nat} (hn : n < 10000000000000000) (hneg : neg = true → n ≠ 0) : Ev (fun k => spec_l1Mag.f k neg (dg n)) (dg n) :=
  Ev.of_bind (NumOk_dg hn hneg) ⟨0, fun k _ => rfl⟩
theorem sign_dg {neg : Bool} {n : Nat} (hn : n < 10000000000000000) (hneg : neg = true → n ≠ 0) : Ev (fun k => spec_l1Sign.f k neg (dg n)) neg :=
  Ev.of_bind (NumOk_dg hn hneg) ⟨0, fun k _ => rfl⟩
theorem dg_mono {a b : Nat} (h : a ≤ b) : (dg a).length ≤ (dg b).length := by
  refine dg_len ?_
  have := val_lt (dg_DG b)
  rw [dg_val] at this
  simp only [P] at this
  omega
theorem cmp_l0 {xs ys : List Int} (hx : DG xs) (hy : DG ys) (hl : xs.length = ys.length) (hb : xs.length ≤ 1000) : ∀ i : Nat, i ≤ xs.length → Ev (fun k => spec_l1CmpMag.l0 k xs ys ((i : Int) - 1)) (cmpI (val (xs.take i)) (val (ys.take i))) := by
  intro i
  induction i with
  | zero =>
    intro _
    refine ⟨1, fun k hk => ?_⟩
    obtain ⟨k, rfl⟩ : ∃ m, k = m + 1 := ⟨k - 1, by omega⟩
    show spec_l1CmpMag.l0 (k + 1) xs ys (((0 : Nat) : Int) - 1) = _
    unfold spec_l1CmpMag.l0
    rw [if_neg (by omega)]; rfl
  | succ i ih =>
    intro hi
    have hi1 : i < xs.length := by omega
    have hi2 : i < ys.length := by omega
    have e : (((i + 1 : Nat) : Int) - 1) = (i : Int) := by omega
    have v1 := val_take_succ hi1
    have v2 := val_take_succ hi2
    have lx1 := val_lt (hx.take i); have lx2 := val_lt (hy.take i)
    rw [List.length_take, Nat.min_eq_left (by omega)] at lx1 lx2
    have n1 := val_nn (hx.take i); have n2 := val_nn (hy.take i)
    have hP := P_pos i
    have step : ∀ k, spec_l1CmpMag.l0 (k + 1) xs ys (((i + 1 : Nat) : Int) - 1) = if xs[i] = ys[i] then spec_l1CmpMag.l0 k xs ys ((i : Int) - 1) else if xs[i] < ys[i] then some (-1) else some 1 := fun k => by
      rw [e]
      conv => lhs; unfold spec_l1CmpMag.l0
      rw [if_pos (by omega), if_pos (by omega), if_pos (by omega), if_pos (by omega), rd_get hi1, rd_get hi2, wrap_id (by omega) (by omega)]
    by_cases c : xs[i] = ys[i]
    · have ec : cmpI (val (xs.take (i + 1))) (val (ys.take (i + 1))) = cmpI (val (xs.take i)) (val (ys.take i)) := by
        rw [v1, v2, c]; unfold cmpI; split <;> split <;> (try split) <;> (try split) <;> omega
      rw [ec]
      refine Ev.succ (fun k => ?_) (ih (by omega))
      show spec_l1CmpMag.l0 (k + 1) xs ys (((i + 1 : Nat) : Int) - 1) = _
      rw [step, if_pos c]
    · refine ⟨1, fun k hk => ?_⟩
      obtain ⟨k, rfl⟩ : ∃ m, k = m + 1 := ⟨k - 1, by omega⟩
      show spec_l1CmpMag.l0 (k + 1) xs ys (((i + 1 : Nat) : Int) - 1) = _
      rw [step, if_neg c, v1, v2]
      by_cases g : xs[i] < ys[i]
      · have := Int.mul_le_mul_of_nonneg_left (show xs[i] + 1 ≤ ys[i] by omega) (show 0 ≤ P i by omega)
        rw [Int.mul_add, Int.mul_one] at this
        rw [if_pos g, cmpI, if_pos (by omega)]
      · have := Int.mul_le_mul_of_nonneg_left (show ys[i] + 1 ≤ xs[i] by omega) (show 0 ≤ P i by omega)
        rw [Int.mul_add, Int.mul_one] at this
        rw [if_neg g, cmpI, if_neg (by omega), if_pos (by omega)]
theorem cmp_dg {a b : Nat} (ha : a < 10000000000000000) (hb : b < 10000000000000000) : Ev (fun k => spec_l1CmpMag.f k (dg a) (dg b)) (cmpI (a : Int) (b : Int)) := by
  have la := dg_len16 ha; have lb := dg_len16 hb
  by_cases h : (dg a).length = (dg b).length
  · have := cmp_l0 (dg_DG a) (dg_DG b) h (by omega) (dg a).length (Nat.le_refl _)
    rw [List.take_length, h, List.take_length, dg_val, dg_val] at this
    refine Ev.congr (fun k => ?_) this
    show spec_l1CmpMag.f k (dg a) (dg b) = _
    unfold spec_l1CmpMag.f
    rw [if_pos (by omega), wrap_id (by omega) (by omega), h]
  · refine ⟨0, fun k _ => ?_⟩
    show spec_l1CmpMag.f k (dg a) (dg b) = _
    unfold spec_l1CmpMag.f
    rw [if_neg (by omega)]
    by_cases g : (dg a).length < (dg b).length
    · have : ¬ b ≤ a := fun q => absurd (dg_mono q) (by omega)
      rw [if_pos (by omega), cmpI, if_pos (by omega)]
    · have : ¬ a ≤ b := fun q => absurd (dg_mono q) (by omega)
      rw [if_neg (by omega), cmpI, if_neg (by omega), if_pos (by omega)]
theorem P_one_le (n : Nat) : 1 ≤ P n := P_pos n
theorem horner_bd {a p v B : Int} (ha : 0 ≤ a) (hp : 1 ≤ p) (hv : 0 ≤ v) (h : a * p + v < B) : a < B := by
  have := Int.mul_le_mul_of_nonneg_left hp ha
  rw [Int.mul_one] at this; omega
theorem guess_l0 {R D : List Int} (hR : DG R) (hl : R.length ≤ 100) (hD : D.length ≤ 3) {v : Int} : ∀ (i : Nat) (acc : Int), i ≤ R.length → 0 ≤ acc → acc * P i + val (R.take i) < 10000000000000000 →
    Ev (fun k => spec_l1Guess.l1 k D (acc * P i + val (R.take i)) 0 ((D.length : Int) - 1)) v → Ev (fun k => spec_l1Guess.l0 k R D acc ((i : Int) - 1)) v := by
  intro i
  induction i with
  | zero =>
    intro acc _ h0 _ h
    simp only [P_zero, Int.mul_one, List.take_zero, val, Int.add_zero] at h
    refine Ev.succ (g := fun k => spec_l1Guess.j1 k R D acc (((0 : Nat) : Int) - 1) false) (fun k => ?_) (Ev.succ (fun k => ?_) h)
    · show spec_l1Guess.l0 (k + 1) R D acc (((0 : Nat) : Int) - 1) = _
      conv => lhs; unfold spec_l1Guess.l0
      rw [if_neg (by omega)]
    · show spec_l1Guess.j1 (k + 1) R D acc (((0 : Nat) : Int) - 1) false = _
      conv => lhs; unfold spec_l1Guess.j1
      rw [if_neg (by simp), wrap_id (by omega) (by omega)]
  | succ i ih =>
    intro acc hi h0 hb h
    have hi1 : i < R.length := by omega
    have hp : 0 ≤ R[i] ∧ R[i] ≤ 9999 := hR _ (List.getElem_mem hi1)
    have e : (((i + 1 : Nat) : Int) - 1) = (i : Int) := by omega
    have hs : acc * P (i + 1) + val (R.take (i + 1)) = (acc * 10000 + R[i]) * P i + val (R.take i) := by
      rw [val_take_succ hi1, P_succ]; grind
    rw [hs] at hb h
    have hn := val_nn (hR.take i)
    have b1 := horner_bd (by omega) (P_one_le i) hn hb
    have w1 : wrap64 (wrap64 (acc * 10000) + R[i]) = acc * 10000 + R[i] := by rw [wrap_id (x := acc * 10000) (by omega) (by omega), wrap_id (by omega) (by omega)]
    refine Ev.succ (g := fun k => spec_l1Guess.j1 k R D acc (i : Int) true) (fun k => ?_) (Ev.succ (fun k => ?_) (ih _ (by omega) (by omega) hb h))
    · show spec_l1Guess.l0 (k + 1) R D acc (((i + 1 : Nat) : Int) - 1) = _
      rw [e]
      conv => lhs; unfold spec_l1Guess.l0
      rw [if_pos (by omega), wrap_id (x := (D.length : Int) - 3) (by omega) (by omega), decide_eq_true (by omega)]
    · show spec_l1Guess.j1 (k + 1) R D acc (i : Int) true = _
      conv => lhs; unfold spec_l1Guess.j1
      rw [if_pos rfl, if_pos (by omega), if_pos (by omega), rd_get hi1, w1, wrap_id (by omega) (by omega)]
theorem guess_l1 {D : List Int} (hR : DG D) (hD : D.length ≤ 3) {top v : Int} : ∀ (i : Nat) (acc : Int), i ≤ D.length → 0 ≤ acc → acc * P i + val (D.take i) < 10000000000000000 →
    Ev (fun k => spec_l1Guess.j4 k top (acc * P i + val (D.take i))) v → Ev (fun k => spec_l1Guess.l1 k D top acc ((i : Int) - 1)) v := by
  intro i
  induction i with
  | zero =>
    intro acc _ h0 _ h
    simp only [P_zero, Int.mul_one, List.take_zero, val, Int.add_zero] at h
    refine Ev.succ (g := fun k => spec_l1Guess.j3 k D top acc (((0 : Nat) : Int) - 1) false) (fun k => ?_) (Ev.succ (fun k => ?_) h)
    · show spec_l1Guess.l1 (k + 1) D top acc (((0 : Nat) : Int) - 1) = _
      conv => lhs; unfold spec_l1Guess.l1
      rw [if_neg (by omega)]
    · show spec_l1Guess.j3 (k + 1) D top acc (((0 : Nat) : Int) - 1) false = _
      conv => lhs; unfold spec_l1Guess.j3
      rw [if_neg (by simp), if_neg (by omega)]
  | succ i ih =>
    intro acc hi h0 hb h
    have hi1 : i < D.length := by omega
    have hp : 0 ≤ D[i] ∧ D[i] ≤ 9999 := hR _ (List.getElem_mem hi1)
    have e : (((i + 1 : Nat) : Int) - 1) = (i : Int) := by omega
    have hs : acc * P (i + 1) + val (D.take (i + 1)) = (acc * 10000 + D[i]) * P i + val (D.take i) := by
      rw [val_take_succ hi1, P_succ]; grind
    rw [hs] at hb h
    have hn := val_nn (hR.take i)
    have b1 := horner_bd (by omega) (P_one_le i) hn hb
    have w1 : wrap64 (wrap64 (acc * 10000) + D[i]) = acc * 10000 + D[i] := by rw [wrap_id (x := acc * 10000) (by omega) (by omega), wrap_id (by omega) (by omega)]
    refine Ev.succ (g := fun k => spec_l1Guess.j3 k D top acc (i : Int) true) (fun k => ?_) (Ev.succ (fun k => ?_) (ih _ (by omega) (by omega) hb h))
    · show spec_l1Guess.l1 (k + 1) D top acc (((i + 1 : Nat) : Int) - 1) = _
      rw [e]
      conv => lhs; unfold spec_l1Guess.l1
      rw [if_pos (by omega), wrap_id (x := (D.length : Int) - 3) (by omega) (by omega), decide_eq_true (by omega)]
    · show spec_l1Guess.j3 (k + 1) D top acc (i : Int) true = _
      conv => lhs; unfold spec_l1Guess.j3
      rw [if_pos rfl, if_pos (by omega), if_pos (by omega), rd_get hi1, w1, wrap_id (by omega) (by omega)]
theorem dg_len12 {n : Nat} (h : n < 1000000000000) : (dg n).length ≤ 3 := dg_len (k := 3) (by omega)
theorem guess_dg {m n : Nat} (hm : m < 10000000000000000) (hn : n < 1000000000000) (h0 : 0 < n) (h : n ≤ m) : Ev (fun k => spec_l1Guess.f k (dg m) (dg n)) ((m / n : Nat) : Int) := by
  have lm := dg_len16 hm; have ln := dg_len12 hn
  have q1 : 0 < m / n := Nat.div_pos h h0
  have q2 : m / n ≤ m := Nat.div_le_self _ _
  have hj : Ev (fun k => spec_l1Guess.j4 k (m : Int) (n : Int)) ((m / n : Nat) : Int) := ⟨1, fun k hk => by
    obtain ⟨k, rfl⟩ : ∃ m, k = m + 1 := ⟨k - 1, by omega⟩
    show spec_l1Guess.j4 (k + 1) (m : Int) (n : Int) = _
    simp only [spec_l1Guess.j4]
    have e : Int.tdiv (m : Int) (n : Int) = ((m / n : Nat) : Int) := by rw [tdiv_e (by omega)]; rfl
    rw [if_neg (by omega), e, wrap_id (by omega) (by omega), if_pos (by omega)]⟩
  have k1 := guess_l1 (dg_DG n) ln (top := (m : Int)) (v := ((m / n : Nat) : Int)) (dg n).length 0 (Nat.le_refl _) (by omega) (by rw [List.take_length, dg_val]; omega) (by rw [List.take_length, dg_val, Int.zero_mul, Int.zero_add]; exact hj)
  have k0 := guess_l0 (dg_DG m) (by omega) ln (v := ((m / n : Nat) : Int)) (dg m).length 0 (Nat.le_refl _) (by omega) (by rw [List.take_length, dg_val]; omega) (by rw [List.take_length, dg_val, Int.zero_mul, Int.zero_add]; exact k1)
  refine Ev.congr (fun k => ?_) k0
  show spec_l1Guess.f k (dg m) (dg n) = _
  unfold spec_l1Guess.f
  rw [wrap_id (by omega) (by omega)]
theorem subkey {A B c p x y : Int} : (A - B + c * p) + p * (x - c - y + 10000) = (A + p * x) - (B + p * y) + 1 * (10000 * p) := by
  simp only [Int.mul_add, Int.mul_sub, Int.one_mul]; rw [Int.mul_comm c p]; omega
theorem subkey0 {A B c p q x y : Int} : (A - B + c * p) + p * (x - c - y) = (A + p * x) - (B + p * y) + 0 * q := by
  simp only [Int.mul_sub, Int.zero_mul]; rw [Int.mul_comm c p]; omega
theorem mulkey {p v vt xi g o0 o1 a b c : Int} (hv : v = vt * g) (hin : (a - o0) + 10000 * (b - o1) + 100000000 * c = xi * g) : ((v + p * (a - o0)) + 10000 * p * (b - o1)) + 10000 * (10000 * p) * (c - 0) = (vt + p * xi) * g := by
  have h : p * ((a - o0) + 10000 * (b - o1) + 100000000 * c) = p * (xi * g) := by rw [hin]
  grind
theorem divkey {d v n R r q m : Int} (hr : r = d + 10000 * R) (h : r = n * q + m) : d + 10000 * (v * n + R) = (q + 10000 * v) * n + m := by grind
theorem sub_l0 {xs ys : List Int} (hx : DG xs) (hy : DG ys) (hb : xs.length ≤ 1000) : ∀ (d i : Nat) (acc : List Int) (c : Int), xs.length - i = d → i ≤ xs.length → acc.length = i → DG acc → (c = 0 ∨ c = 1) → val acc = val (xs.take i) - val (ys.take i) + c * P i →
    ∃ ds, Ev (fun k => spec_l1SubMag.l0 k xs ys acc c (i : Int)) ds ∧ DG ds ∧ ds.length = xs.length ∧ ∃ c' : Int, (c' = 0 ∨ c' = 1) ∧ val ds = val xs - val (ys.take xs.length) + c' * P xs.length := by
  intro d
  induction d with
  | zero =>
    intro i acc c hd hi hl ha hc hv
    have e : i = xs.length := by omega
    subst e
    rw [List.take_length] at hv
    refine ⟨acc, ⟨1, fun k hk => ?_⟩, ha, hl, c, hc, hv⟩
    obtain ⟨k, rfl⟩ : ∃ m, k = m + 1 := ⟨k - 1, by omega⟩
    show spec_l1SubMag.l0 (k + 1) xs ys acc c (xs.length : Int) = _
    unfold spec_l1SubMag.l0
    rw [if_neg (by omega)]
  | succ d ih =>
    intro i acc c hd hi hl ha hc hv0
    have hv := Aside0.mk hv0
    clear hv0
    have hi1 : i < xs.length := by omega
    have f1 : xs.length - (i + 1) = d := by omega
    have f2 : i + 1 ≤ xs.length := by omega
    have f3 : acc.length < 17592186044416 := by omega
    have hp : 0 ≤ xs[i] ∧ xs[i] ≤ 9999 := hx _ (List.getElem_mem hi1)
    have hw : wrap64 ((i : Int) + 1) = ((i + 1 : Nat) : Int) := by rw [wrap_id (by omega) (by omega)]; omega
    obtain ⟨y, hy0, hyv, hstep⟩ : ∃ y : Int, (0 ≤ y ∧ y ≤ 9999) ∧ Aside0 (val (ys.take (i + 1)) = val (ys.take i) + P i * y) ∧ ∀ k, spec_l1SubMag.l0 (k + 1) xs ys acc c (i : Int) = spec_l1SubMag.j1 k xs ys acc (i : Int) (xs[i] - c - y) := by
      by_cases g : i < ys.length
      · have hq : 0 ≤ ys[i] ∧ ys[i] ≤ 9999 := hy _ (List.getElem_mem g)
        refine ⟨ys[i], hq, ⟨val_take_succ g⟩, fun k => ?_⟩
        conv => lhs; unfold spec_l1SubMag.l0
        rw [if_pos (by omega), if_pos (by omega), if_pos (by omega), rd_get hi1, rd_get g, wrap_id (x := xs[i] - c) (by omega) (by omega), wrap_id (by omega) (by omega)]
      · refine ⟨0, by omega, ⟨by rw [List.take_of_length_le (by omega), List.take_of_length_le (by omega), Int.mul_zero, Int.add_zero]⟩, fun k => ?_⟩
        conv => lhs; unfold spec_l1SubMag.l0
        rw [if_pos (by omega), if_pos (by omega), if_neg (by omega), rd_get hi1, wrap_id (x := xs[i] - c) (by omega) (by omega), Int.sub_zero]
    have v1 := Aside0.mk (val_take_succ hi1)
    have hlen : Aside0 (P acc.length = P i) := ⟨by rw [hl]⟩
    by_cases g : xs[i] - c - y < 0
    · have fd : 0 ≤ xs[i] - c - y + 10000 ∧ xs[i] - c - y + 10000 ≤ 9999 := by omega
      have fw : wrap64 (xs[i] - c - y + 10000) = xs[i] - c - y + 10000 := wrap_id (by omega) (by omega)
      obtain ⟨ds, e1, r⟩ := ih (i + 1) (acc ++ [xs[i] - c - y + 10000]) 1 f1 f2 (by simp [hl]) (ha.app (DG.cons fd DG.nil)) (.inr rfl) (by
        rw [val_app, v1.out, hyv.out, hlen.out, hv.out, P_succ]; simp only [val, Int.mul_zero, Int.add_zero]; exact subkey)
      refine ⟨ds, Ev.succ hstep (Ev.succ (fun k => ?_) e1), r⟩
      show spec_l1SubMag.j1 (k + 1) xs ys acc (i : Int) (xs[i] - c - y) = _
      conv => lhs; unfold spec_l1SubMag.j1
      rw [if_pos g, if_pos f3, fw, hw]
    · have fd : 0 ≤ xs[i] - c - y ∧ xs[i] - c - y ≤ 9999 := by omega
      obtain ⟨ds, e1, r⟩ := ih (i + 1) (acc ++ [xs[i] - c - y]) 0 f1 f2 (by simp [hl]) (ha.app (DG.cons fd DG.nil)) (.inl rfl) (by
        rw [val_app, v1.out, hyv.out, hlen.out, hv.out]; simp only [val, Int.mul_zero, Int.add_zero]; exact subkey0)
      refine ⟨ds, Ev.succ hstep (Ev.succ (fun k => ?_) e1), r⟩
      show spec_l1SubMag.j1 (k + 1) xs ys acc (i : Int) (xs[i] - c - y) = _
      conv => lhs; unfold spec_l1SubMag.j1
      rw [if_neg g, if_pos f3, hw]
theorem sub_dg {a b : Nat} (ha : a < 10000000000000000) (h : b ≤ a) : ∃ ds, Ev (fun k => spec_l1SubMag.f k (dg a) (dg b)) ds ∧ DG ds ∧ ds.length ≤ 4 ∧ val ds = ((a - b : Nat) : Int) := by
  have la := dg_len16 ha; have lb := dg_mono h
  obtain ⟨ds, e, h1, h2, c', hc, hv⟩ := sub_l0 (dg_DG a) (dg_DG b) (by omega) (dg a).length 0 [] 0 (by omega) (by omega) rfl DG.nil (.inl rfl) (by simp [val])
  rw [List.take_of_length_le lb, dg_val, dg_val, ← h2] at hv
  have l := val_lt h1
  refine ⟨ds, Ev.congr (fun k => rfl) e, h1, by omega, ?_⟩
  rcases hc with rfl | rfl
  · rw [Int.zero_mul] at hv; omega
  · rw [Int.one_mul] at hv; omega
theorem mul_row {xs out : List Int} {i : Nat} {X Y g : Int} (h0 : i < out.length) (h1 : i + 1 < out.length) (h2 : i + 2 < out.length) (ho : DG out) (o2 : out[i + 2] = 0) (hi1 : i < xs.length) (hX : xs[i] * g + out[i] = X) (hY : out[i + 1] + X / 10000 = Y) (hv : val out = val (xs.take i) * g) :
    val (((out.set i (X % 10000)).set (i + 1) (Y % 10000)).set (i + 2) (Y / 10000)) = val (xs.take (i + 1)) * g := by
  have hin : ((X % 10000 - out[i]) + 10000 * (Y % 10000 - out[i + 1]) + 100000000 * (Y / 10000)) = xs[i] * g := by omega
  have v0 := val_take_succ hi1
  have s1 := val_set h0 (X % 10000)
  have s2 := val_set (l := out.set i (X % 10000)) (i := i + 1) (by simpa using h1) (Y % 10000)
  have s3 := val_set (l := (out.set i (X % 10000)).set (i + 1) (Y % 10000)) (i := i + 2) (by simpa using h2) (Y / 10000)
  have g1 : (out.set i (X % 10000))[i + 1]'(by simpa using h1) = out[i + 1] := List.getElem_set_ne (Nat.ne_of_lt (Nat.lt_succ_self i)) _
  have g2 : ((out.set i (X % 10000)).set (i + 1) (Y % 10000))[i + 2]'(by simpa using h2) = 0 := by
    rw [List.getElem_set_ne (Nat.ne_of_lt (Nat.lt_succ_self (i + 1))), List.getElem_set_ne (Nat.ne_of_lt (Nat.lt_of_lt_of_le (Nat.lt_succ_self i) (Nat.le_succ (i + 1))))]; exact o2
  rw [g1] at s2
  rw [g2] at s3
  have pp : P (i + 2) = 10000 * (10000 * P i) := by rw [show i + 2 = (i + 1) + 1 from rfl, P_succ, P_succ]
  rw [s3, s2, s1, v0, pp, P_succ]
  exact mulkey hv hin
theorem mul_DG {out : List Int} {i : Nat} {X Y : Int} (ho : DG out) (bX : 0 ≤ X) (bY : 0 ≤ Y ∧ Y ≤ 99990000) : DG (((out.set i (X % 10000)).set (i + 1) (Y % 10000)).set (i + 2) (Y / 10000)) := fun y hy => by
  rcases List.mem_or_eq_of_mem_set hy with hy | rfl
  · rcases List.mem_or_eq_of_mem_set hy with hy | rfl
    · rcases List.mem_or_eq_of_mem_set hy with hy | rfl
      · exact ho y hy
      · omega
    · omega
  · omega
theorem wz_ (i c : Nat) (h : i + c ≤ 1000000) : wrap64 ((i : Int) + (c : Int)) = ((i + c : Nat) : Int) := by rw [wrap_id (by omega) (by omega)]; omega
theorem w9_ {x : Int} (h0 : 0 ≤ x) (h1 : x ≤ 99990000) : wrap64 x = x := wrap_id (by omega) (by omega)
theorem mul_l0 {xs : List Int} (hx : DG xs) (hb : xs.length ≤ 100) {g : Int} (hg : 0 ≤ g ∧ g ≤ 9999) : ∀ (d i : Nat) (out : List Int), xs.length - i = d → i ≤ xs.length → out.length = xs.length + 2 → DG out → (∀ (j : Nat) (h : j < out.length), i + 2 ≤ j → out[j] = 0) → val out = val (xs.take i) * g →
    ∃ ds, Ev (fun k => spec_l1MulMag.l0 k xs [g, 0] out (i : Int)) ds ∧ DG ds ∧ ds.length = xs.length + 2 ∧ val ds = val xs * g := by
  intro d
  induction d with
  | zero =>
    intro i out hd hi hl ho hz hv
    have e : i = xs.length := by omega
    subst e
    rw [List.take_length] at hv
    refine ⟨out, ⟨1, fun k hk => ?_⟩, ho, hl, hv⟩
    obtain ⟨k, rfl⟩ : ∃ m, k = m + 1 := ⟨k - 1, by omega⟩
    show spec_l1MulMag.l0 (k + 1) xs [g, 0] out (xs.length : Int) = _
    unfold spec_l1MulMag.l0
    rw [if_neg (by omega)]
  | succ d ih =>
    intro i out hd hi hl ho hz hv0
    have hv := Aside0.mk hv0
    clear hv0
    have hi1 : i < xs.length := by omega
    have hp : 0 ≤ xs[i] ∧ xs[i] ≤ 9999 := hx _ (List.getElem_mem hi1)
    have h0 : i < out.length := by omega
    have h1 : i + 1 < out.length := by omega
    have h2 : i + 2 < out.length := by omega
    have o0 : 0 ≤ out[i] ∧ out[i] ≤ 9999 := ho _ (List.getElem_mem h0)
    have o1 : 0 ≤ out[i + 1] ∧ out[i + 1] ≤ 9999 := ho _ (List.getElem_mem h1)
    have o2 : out[i + 2] = 0 := hz (i + 2) h2 (Nat.le_refl _)
    have m0 := mul_bd (x := xs[i]) (y := g) (X := 9999) (Y := 9999) (by omega) (by omega)
    have m1 := Int.mul_nonneg hp.1 hg.1
    obtain ⟨X, hX⟩ : ∃ X, xs[i] * g + out[i] = X := ⟨_, rfl⟩
    obtain ⟨Y, hY⟩ : ∃ Y, out[i + 1] + X / 10000 = Y := ⟨_, rfl⟩
    have bX : 0 ≤ X ∧ X ≤ 99990000 := by omega
    have bY : 0 ≤ Y ∧ Y ≤ 99990000 := by omega
    have bXd : 0 ≤ X / 10000 ∧ X / 10000 ≤ 99990000 := by omega
    have bYd : 0 ≤ Y / 10000 ∧ Y / 10000 ≤ 99990000 := by omega
    have f0 : (0 : Int) ≤ (i : Int) := by omega
    have f1 : (i : Int) < (xs.length : Int) := by omega
    have f2 : (i : Int) < (out.length : Int) := by omega
    have f3 : (0 : Int) ≤ ((i + 1 : Nat) : Int) := by omega
    have f4 : ((i + 1 : Nat) : Int) < (out.length : Int) := by omega
    have f5 : (0 : Int) ≤ ((i + 2 : Nat) : Int) := by omega
    have f6 : ((i + 2 : Nat) : Int) < (out.length : Int) := by omega
    have f7 : xs.length - (i + 1) = d := by omega
    have f8 : i + 1 ≤ xs.length := by omega
    have fb : i + 2 ≤ 1000000 := by omega
    have wz0 : wrap64 ((i : Int) + 0) = (i : Int) := wz_ i 0 (Nat.le_trans (Nat.le_add_right i 2) fb)
    have wz1 : wrap64 ((i : Int) + 1) = ((i + 1 : Nat) : Int) := wz_ i 1 (Nat.le_trans (Nat.le_succ (i + 1)) fb)
    have wz2 : wrap64 ((i : Int) + 2) = ((i + 2 : Nat) : Int) := wz_ i 2 fb
    have e00 : wrap64 0 = 0 := wz_ 0 0 (by decide)
    have e01 : wrap64 (0 + 1) = 1 := wz_ 0 1 (by decide)
    have e12 : wrap64 (1 + 1) = 2 := wz_ 1 1 (by decide)
    have wA : wrap64 (xs[i] * g) = xs[i] * g := w9_ m1 (Int.le_trans m0.2 (by decide))
    have wX : wrap64 X = X := w9_ bX.1 (Int.le_trans bX.2 (by decide))
    have wXd : wrap64 (X / 10000) = X / 10000 := w9_ bXd.1 bXd.2
    have wO : wrap64 out[i + 1] = out[i + 1] := w9_ o1.1 (Int.le_trans o1.2 (by decide))
    have wY : wrap64 Y = Y := w9_ bY.1 (Int.le_trans bY.2 (by decide))
    have wYd : wrap64 (Y / 10000) = Y / 10000 := w9_ bYd.1 bYd.2
    have gl : (([g, 0] : List Int).length : Int) = 2 := rfl
    have rr1 : rd (out.set i (X % 10000)) ((i + 1 : Nat) : Int) = out[i + 1] := by
      rw [rd_get (by rw [List.length_set]; exact h1)]; exact List.getElem_set_ne (Nat.ne_of_lt (Nat.lt_succ_self i)) _
    obtain ⟨ds, e1, r⟩ := ih (i + 1) (((out.set i (X % 10000)).set (i + 1) (Y % 10000)).set (i + 2) (Y / 10000)) f7 f8 (by rw [List.length_set, List.length_set, List.length_set]; exact hl) (mul_DG ho bX.1 bY) (fun j h hj => by
      have hj' : j < out.length := by rw [List.length_set, List.length_set, List.length_set] at h; exact h
      have n2 : i + 2 ≠ j := Nat.ne_of_lt hj
      have n1 : i + 1 ≠ j := Nat.ne_of_lt (Nat.lt_of_succ_lt hj)
      have n0 : i ≠ j := Nat.ne_of_lt (Nat.lt_of_succ_lt (Nat.lt_of_succ_lt hj))
      rw [List.getElem_set_ne n2, List.getElem_set_ne n1, List.getElem_set_ne n0]
      exact hz j hj' (Nat.le_of_lt hj)) (mul_row h0 h1 h2 ho o2 hi1 hX hY hv.out)
    refine ⟨ds, ?_, r⟩
    clear r
    refine Ev.succ (g := fun k => spec_l1MulMag.l1 k xs [g, 0] out (i : Int) 0 0) (fun k => ?_) ?_
    · show spec_l1MulMag.l0 (k + 1) xs [g, 0] out (i : Int) = _
      conv => lhs; unfold spec_l1MulMag.l0
      rw [if_pos f1]
    refine Ev.succ (g := fun k => spec_l1MulMag.l1 k xs [g, 0] (out.set i (X % 10000)) (i : Int) (X / 10000) 1) (fun k => ?_) ?_
    · show spec_l1MulMag.l1 (k + 1) xs [g, 0] out (i : Int) 0 0 = _
      conv => lhs; unfold spec_l1MulMag.l1
      rw [gl, if_pos (by decide), if_pos f0, if_pos f1, if_pos (by decide), wz0, if_pos f0, if_pos f2, rd_get hi1, rd_get h0, show rd [g, 0] 0 = g from rfl, e01, wA, hX, wX, Int.add_zero, wX, tmod_e bX.1, tdiv_e bX.1, wXd, Int.toNat_natCast]
    refine Ev.succ (g := fun k => spec_l1MulMag.l1 k xs [g, 0] ((out.set i (X % 10000)).set (i + 1) (Y % 10000)) (i : Int) (Y / 10000) 2) (fun k => ?_) ?_
    · show spec_l1MulMag.l1 (k + 1) xs [g, 0] (out.set i (X % 10000)) (i : Int) (X / 10000) 1 = _
      conv => lhs; unfold spec_l1MulMag.l1
      rw [gl, if_pos (by decide), if_pos f0, if_pos f1, if_pos (by decide), wz1, if_pos f3, if_pos (by rw [List.length_set]; exact f4), rd_get hi1, rr1, show rd [g, 0] 1 = 0 from rfl, e12, Int.mul_zero, e00, Int.zero_add, wO, hY, wY, tmod_e bY.1, tdiv_e bY.1, wYd, Int.toNat_natCast]
    refine Ev.succ (fun k => ?_) e1
    show spec_l1MulMag.l1 (k + 1) xs [g, 0] ((out.set i (X % 10000)).set (i + 1) (Y % 10000)) (i : Int) (Y / 10000) 2 = _
    conv => lhs; unfold spec_l1MulMag.l1
    rw [gl, if_neg (by decide), wz2, if_pos f5, if_pos (by rw [List.length_set, List.length_set]; exact f6), wz1, Int.toNat_natCast]
theorem DG_zero : ∀ n : Nat, DG (List.replicate n 0) := fun n y hy => by
  have := List.eq_of_mem_replicate hy; omega
theorem val_zeros : ∀ n : Nat, val (List.replicate n 0) = 0
  | 0 => rfl
  | n + 1 => by rw [List.replicate_succ]; simp only [val, val_zeros n]; rfl
theorem mul_dg {n : Nat} (hn : n < 1000000000000) {g : Int} (hg : 0 ≤ g ∧ g ≤ 9999) : ∃ ds, Ev (fun k => spec_l1MulMag.f k (dg n) [g, 0]) ds ∧ DG ds ∧ ds.length ≤ 5 ∧ val ds = (n : Int) * g := by
  have ln := dg_len12 hn
  obtain ⟨ds, e, h1, h2, h3⟩ := mul_l0 (dg_DG n) (by omega) hg (dg n).length 0 (List.replicate ((dg n).length + 2) 0) (by omega) (by omega) (by simp) (DG_zero _) (fun j h _ => by simp) (by rw [val_zeros]; simp [val])
  rw [dg_val] at h3
  refine ⟨ds, Ev.congr (fun k => ?_) e, h1, by omega, h3⟩
  show spec_l1MulMag.f k (dg n) [g, 0] = _
  unfold spec_l1MulMag.f
  have w : wrap64 (((dg n).length : Int) + (([g, 0] : List Int).length : Int)) = (((dg n).length + 2 : Nat) : Int) := by
    rw [show (([g, 0] : List Int).length : Int) = 2 from rfl, wrap_id (by omega) (by omega)]; omega
  rw [w, if_pos (by omega), Int.toNat_natCast, if_pos (by omega)]; rfl
theorem div_lt {xs q : List Int} {n r : Nat} (hn : n < 1000000000000) (hr : r < n) {i : Int} {v : List Int × List Int} (h : Ev (fun k => spec_l1DivMag.l0 k xs (dg n) q (dg r) (wrap64 (i - 1))) v) : Ev (fun k => spec_l1DivMag.l1 k xs (dg n) q (dg r) i) v := by
  have hc := cmp_dg (a := r) (b := n) (by omega) (by omega)
  rw [show cmpI (r : Int) (n : Int) = -1 from if_pos (by omega)] at hc
  refine Ev.succ (fun k => ?_) (Ev.of_bind hc (f := fun k t205 => if t205 ≥ 0 then ((spec_l1Guess.f k (dg r) (dg n)).bind fun t206 => (if 0 ≤ i then (if i < (q.length : Int) then ((spec_l1MulMag.f k (dg n) (([Int.tmod t206 10000, wrap64 (Int.tdiv t206 10000)] : List Int))).bind fun t212 => ((spec_l1Num.f k false t212).bind fun bt215 => ((spec_l1SubMag.f k (dg r) bt215.2).bind fun t219 => ((spec_l1Num.f k false t219).bind fun bt222 => (spec_l1DivMag.l1 k xs (dg n) (q.set (i : Int).toNat (wrap64 ((rd q i) + t206))) bt222.2 i))))) else (none)) else (none))) else (spec_l1DivMag.l0 k xs (dg n) q (dg r) (wrap64 (i - 1)))) (Ev.congr (fun k => if_neg (by omega)) h))
  conv => lhs; unfold spec_l1DivMag.l1
theorem div_l1 {xs q : List Int} {n r : Nat} (hn : n < 1000000000000) (h0 : 0 < n) (hr : r < n * 10000) {i : Nat} (hi : i < q.length) (hq : 0 ≤ q[i] ∧ q[i] ≤ 9999) {v : List Int × List Int}
    (h : Ev (fun k => spec_l1DivMag.l0 k xs (dg n) (q.set i (q[i] + (r / n : Nat))) (dg (r % n)) (wrap64 ((i : Int) - 1))) v) : Ev (fun k => spec_l1DivMag.l1 k xs (dg n) q (dg r) (i : Int)) v := by
  by_cases c : r < n
  · rw [Nat.div_eq_of_lt c, Nat.mod_eq_of_lt c, show q[i] + ((0 : Nat) : Int) = q[i] by omega, List.set_getElem_self] at h
    exact div_lt hn c h
  · have hc := cmp_dg (a := r) (b := n) (by omega) (by omega)
    have hc0 : cmpI (r : Int) (n : Int) ≥ 0 := by unfold cmpI; split <;> (try split) <;> omega
    have hg := guess_dg (m := r) (n := n) (by omega) hn h0 (by omega)
    have gq : r / n < 10000 := Nat.div_lt_of_lt_mul (by omega)
    have le : n * (r / n) ≤ r := Nat.mul_div_le r n
    have em2 : r - n * (r / n) = r % n := by have := Nat.div_add_mod r n; omega
    have hml := Nat.mod_lt r h0
    have hmd := mul_dg hn (g := ((r / n : Nat) : Int)) (by have := gq; generalize r / n = z at this ⊢; omega)
    generalize r / n = Q at *
    generalize r % n = M at *
    have em : Int.tmod (Q : Int) 10000 = (Q : Int) := by rw [tmod_e (by omega)]; omega
    have ed : wrap64 (Int.tdiv (Q : Int) 10000) = 0 := by rw [tdiv_e (by omega), wrap_id (by omega) (by omega)]; omega
    obtain ⟨ds, e1, d1, d2, d3⟩ := hmd
    have e2 := l1Num_ev (neg := false) d1 (by omega)
    rw [numV, d3, show ((n : Int) * (Q : Int)).toNat = n * Q by rw [← Int.natCast_mul, Int.toNat_natCast]] at e2
    obtain ⟨ds2, e3, b1, b2, b3⟩ := sub_dg (a := r) (b := n * Q) (by omega) le
    have e4 := l1Num_ev (neg := false) b1 (by omega)
    rw [numV, b3, Int.toNat_natCast, em2] at e4
    have e5 := div_lt (q := q.set i (q[i] + (Q : Int))) hn hml h
    refine Ev.succ (g := fun k => (spec_l1CmpMag.f k (dg r) (dg n)).bind fun t205 => (if t205 ≥ 0 then ((spec_l1Guess.f k (dg r) (dg n)).bind fun t206 => (if 0 ≤ (i : Int) then (if (i : Int) < (q.length : Int) then ((spec_l1MulMag.f k (dg n) (([Int.tmod t206 10000, wrap64 (Int.tdiv t206 10000)] : List Int))).bind fun t212 => ((spec_l1Num.f k false t212).bind fun bt215 => ((spec_l1SubMag.f k (dg r) bt215.2).bind fun t219 => ((spec_l1Num.f k false t219).bind fun bt222 => (spec_l1DivMag.l1 k xs (dg n) (q.set (i : Int).toNat (wrap64 ((rd q (i : Int)) + t206))) bt222.2 (i : Int)))))) else (none)) else (none))) else (spec_l1DivMag.l0 k xs (dg n) q (dg r) (wrap64 ((i : Int) - 1))))) (fun k => ?_) ?_
    · conv => lhs; unfold spec_l1DivMag.l1
    refine Ev.of_bind hc ?_
    refine Ev.congr (fun k => if_pos hc0) ?_
    refine Ev.of_bind hg ?_
    refine Ev.congr (fun k => (if_pos (by omega)).trans (if_pos (by omega))) ?_
    rw [em, ed]
    refine Ev.of_bind e1 ?_
    refine Ev.of_bind e2 ?_
    refine Ev.of_bind e3 ?_
    refine Ev.of_bind e4 ?_
    rw [rd_get hi, wrap_id (x := q[i] + (Q : Int)) (by omega) (by omega)]
    exact e5
theorem div_l0 {xs : List Int} (hx : DG xs) (hb : xs.length ≤ 100) {n : Nat} (hn : n < 1000000000000) (h0 : 0 < n) : ∀ (i : Nat) (q : List Int) (R : Nat), i ≤ xs.length → q.length = xs.length → DG q → (∀ (j : Nat) (h : j < q.length), j < i → q[j] = 0) → R < n → val (xs.drop i) = val (q.drop i) * n + R →
    ∃ (q' : List Int) (R' : Nat), Ev (fun k => spec_l1DivMag.l0 k xs (dg n) q (dg R) ((i : Int) - 1)) (q', dg R') ∧ DG q' ∧ q'.length = xs.length ∧ R' < n ∧ val xs = val q' * n + R' := by
  intro i
  induction i with
  | zero =>
    intro q R _ hl hq _ hR hv
    rw [List.drop_zero, List.drop_zero] at hv
    refine ⟨q, R, ⟨1, fun k hk => ?_⟩, hq, hl, hR, hv⟩
    obtain ⟨k, rfl⟩ : ∃ m, k = m + 1 := ⟨k - 1, by omega⟩
    show spec_l1DivMag.l0 (k + 1) xs (dg n) q (dg R) (((0 : Nat) : Int) - 1) = _
    unfold spec_l1DivMag.l0
    rw [if_neg (by omega)]
  | succ i ih =>
    intro q R hi hl hq hz hR hv0
    have hv := Aside0.mk hv0
    clear hv0
    have hi1 : i < xs.length := by omega
    have hi2 : i < q.length := by omega
    have hp : 0 ≤ xs[i] ∧ xs[i] ≤ 9999 := hx _ (List.getElem_mem hi1)
    have hqz : q[i] = 0 := hz i hi2 (by omega)
    have e : (((i + 1 : Nat) : Int) - 1) = (i : Int) := by omega
    obtain ⟨r, hr⟩ : ∃ r : Nat, (r : Int) = xs[i] + 10000 * (R : Int) := ⟨(xs[i] + 10000 * (R : Int)).toNat, by omega⟩
    have hrn : r < n * 10000 := by omega
    have hdm := Nat.div_add_mod r n
    have gq : r / n < 10000 := Nat.div_lt_of_lt_mul (by omega)
    have lR : (dg R).length ≤ 3 := dg_len12 (by omega)
    have e2 := l1Num_ev (neg := false) (d := xs[i] :: dg R) (DG.cons hp (dg_DG R)) (by rw [List.length_cons]; omega)
    rw [numV] at e2
    simp only [val, dg_val, ← hr, Int.toNat_natCast] at e2
    have hdrop : (q.set i (q[i] + (r / n : Nat))).drop (i + 1) = q.drop (i + 1) := List.drop_set_of_lt (by omega)
    have hget : (q.set i (q[i] + (r / n : Nat)))[i]'(by simpa using hi2) = ((r / n : Nat) : Int) := by rw [List.getElem_set_self, hqz]; omega
    have hval : val (xs.drop i) = val ((q.set i (q[i] + (r / n : Nat))).drop i) * n + (r % n : Nat) := by
      rw [val_drop hi1, val_drop (l := q.set i (q[i] + (r / n : Nat))) (by simpa using hi2), hget, hdrop, hv.out]
      have : (r : Int) = (n : Int) * ((r / n : Nat) : Int) + ((r % n : Nat) : Int) := by rw [← Int.natCast_mul, ← Int.natCast_add, hdm]
      exact divkey hr this
    obtain ⟨q', R', e3, f⟩ := ih (q.set i (q[i] + (r / n : Nat))) (r % n) (by omega) (by simpa using hl) (fun y hy => by
      rcases List.mem_or_eq_of_mem_set hy with hy | rfl
      · exact hq y hy
      · rw [hqz]; have := gq; generalize r / n = z at this ⊢; omega) (fun j h hj => by
      rw [List.getElem_set_ne (by omega)]; exact hz j (by simpa using h) (by omega)) (Nat.mod_lt r h0) hval
    refine ⟨q', R', ?_, f⟩
    have w : wrap64 ((i : Int) - 1) = (i : Int) - 1 := wrap_id (by omega) (by omega)
    have e4 := div_l1 (xs := xs) (q := q) hn h0 hrn hi2 (by rw [hqz]; omega) (by rw [w]; exact e3)
    refine Ev.succ (g := fun k => (spec_l1Num.f k false (xs[i] :: dg R)).bind fun bt201 => spec_l1DivMag.l1 k xs (dg n) q bt201.2 (i : Int)) (fun k => ?_) (Ev.of_bind e2 e4)
    show spec_l1DivMag.l0 (k + 1) xs (dg n) q (dg R) (((i + 1 : Nat) : Int) - 1) = _
    rw [e]
    conv => lhs; unfold spec_l1DivMag.l0
    rw [if_pos (by omega), if_pos (by omega), if_pos (by omega), rd_get hi1]
    simp only [Option.bind_some]
    rw [if_pos (by rw [List.length_singleton]; omega)]; rfl
theorem div_dg {x n : Nat} (hx : x < 10000000000000000) (hn : n < 1000000000000) (h0 : 0 < n) : ∃ q, Ev (fun k => spec_l1DivMag.f k (dg x) (dg n)) (q, dg (x % n)) ∧ DG q ∧ q.length ≤ 4 ∧ val q = ((x / n : Nat) : Int) := by
  have lx := dg_len16 hx
  obtain ⟨q, R, e, h1, h2, h3, h4⟩ := div_l0 (dg_DG x) (by omega) hn h0 (dg x).length (List.replicate (dg x).length 0) 0 (Nat.le_refl _) (by simp) (DG_zero _) (fun j h _ => by simp) h0 (by rw [List.drop_length, List.drop_of_length_le (by simp)]; simp [val])
  rw [dg_val] at h4
  have nn := val_nn h1
  have hq : x = n * (val q).toNat + R := by
    have : (x : Int) = ((n * (val q).toNat + R : Nat) : Int) := by
      rw [h4, Int.natCast_add, Int.natCast_mul, Int.toNat_of_nonneg nn, Int.mul_comm]
    exact Int.ofNat.inj this
  have hd : x / n = (val q).toNat := by rw [hq, Nat.mul_add_div h0, Nat.div_eq_of_lt h3, Nat.add_zero]
  have hm : x % n = R := by rw [hq, Nat.mul_add_mod, Nat.mod_eq_of_lt h3]
  refine ⟨q, ?_, h1, by omega, by rw [hd]; omega⟩
  rw [hm]
  refine Ev.congr (fun k => ?_) e
  show spec_l1DivMag.f k (dg x) (dg n) = _
  unfold spec_l1DivMag.f
  rw [if_pos (by omega), Int.toNat_natCast, if_pos (by omega), wrap_id (by omega) (by omega), dg_zero]
theorem gcd_l0 : ∀ (y x : Nat), x < 1000000000000 → y < 1000000000000 → Ev (fun k => spec_l1Gcd.l0 k (dg x) (dg y)) (dg (Nat.gcd x y)) := by
  intro y
  induction y using Nat.strongRecOn with
  | _ y ih =>
    intro x hx hy
    by_cases h : y = 0
    · subst h
      refine ⟨1, fun k hk => ?_⟩
      obtain ⟨k, rfl⟩ : ∃ m, k = m + 1 := ⟨k - 1, by omega⟩
      show spec_l1Gcd.l0 (k + 1) (dg x) (dg 0) = _
      unfold spec_l1Gcd.l0
      rw [dg_zero, if_neg (by simp), Nat.gcd_zero_right]
    · obtain ⟨q, e, _, _, _⟩ := div_dg (x := x) (n := y) (by omega) hy (by omega)
      have hlt := Nat.mod_lt x (show y > 0 by omega)
      have nx := ih (x % y) hlt y hy (by omega)
      rw [show Nat.gcd y (x % y) = Nat.gcd x y from by rw [Nat.gcd_comm x y, Nat.gcd_rec y x]; exact Nat.gcd_comm _ _] at nx
      refine Ev.succ (g := fun k => (spec_l1DivMag.f k (dg x) (dg y)).bind fun bt226 => spec_l1Gcd.l0 k (dg y) bt226.2) (fun k => ?_) (Ev.of_bind e nx)
      show spec_l1Gcd.l0 (k + 1) (dg x) (dg y) = _
      conv => lhs; unfold spec_l1Gcd.l0
      have : dg y ≠ [] := fun q => h (dg_ne.mp q)
      rw [if_pos (by have := List.length_pos_iff.mpr this; omega)]
theorem gcd_lt {x y b : Nat} (hx : x < b) (hy : y < b) : Nat.gcd x y < b := by
  by_cases h : x = 0
  · subst h; rw [Nat.gcd_zero_left]; exact hy
  · exact Nat.lt_of_le_of_lt (Nat.gcd_le_left _ (by omega)) hx
theorem Gcd_ev {s1 s2 : Bool} {x y : Nat} (hx : x < 1000000000000) (hy : y < 1000000000000) (h1 : s1 = true → x ≠ 0) (h2 : s2 = true → y ≠ 0) : Ev (fun k => spec_Gcd.f k s1 (dg x) s2 (dg y)) (false, dg (Nat.gcd x y)) := by
  have hg := gcd_lt hx hy
  have e4 := l1Num_ev (neg := false) (dg_DG (Nat.gcd x y)) (Nat.le_trans (dg_len12 hg) (by omega))
  rw [numV_dg, Bool.false_and] at e4
  refine Ev.of_bind (mag_dg (by omega) h1) ?_
  refine Ev.of_bind (mag_dg (by omega) h2) ?_
  refine Ev.of_bind (Ev.congr (fun k => rfl) (gcd_l0 y x hx hy)) ?_
  exact Ev.of_bind e4 ⟨0, fun k _ => rfl⟩
abbrev NS := S116
def nm (x : Int) : NS := ⟨decide (x < 0), dg x.natAbs⟩
theorem gcdS_step {L : List NS} {x : Int} {g i : Nat} {v : Bool × List Int} (hi : i < L.length) (hL : L.length ≤ 100) (e : rd_T116 L (i : Int) = nm x) (hx : x.natAbs < 1000000000000) (hg : g < 1000000000000)
    (h : Ev (fun k => spec_l3NumGcd.l0 k L ((i + 1 : Nat) : Int) false (dg (Nat.gcd g x.natAbs))) v) : Ev (fun k => spec_l3NumGcd.l0 k L (i : Int) false (dg g)) v := by
  have key := Gcd_ev (s1 := false) (s2 := decide (x < 0)) (x := g) (y := x.natAbs) hg hx (by simp) (by simp; omega)
  refine Ev.succ (g := fun k => (spec_Gcd.f k false (dg g) (decide (x < 0)) (dg x.natAbs)).bind fun bt => spec_l3NumGcd.l0 k L ((i + 1 : Nat) : Int) bt.1 bt.2) (fun k => ?_) (Ev.of_bind key h)
  show spec_l3NumGcd.l0 (k + 1) L (i : Int) false (dg g) = _
  conv => lhs; unfold spec_l3NumGcd.l0
  rw [if_pos (by omega), if_pos (by omega), e, wrap_id (by omega) (by omega)]; rfl
theorem gcdS_end {L : List NS} {g : Nat} : Ev (fun k => spec_l3NumGcd.l0 k L (L.length : Int) false (dg g)) (false, dg g) := by
  refine ⟨1, fun k hk => ?_⟩
  obtain ⟨k, rfl⟩ : ∃ m, k = m + 1 := ⟨k - 1, by omega⟩
  show spec_l3NumGcd.l0 (k + 1) L (L.length : Int) false (dg g) = _
  unfold spec_l3NumGcd.l0
  rw [if_neg (by omega)]
def g4 (a b c d : Int) : Nat := Nat.gcd (Nat.gcd (Nat.gcd (Nat.gcd 0 a.natAbs) b.natAbs) c.natAbs) d.natAbs
theorem NumGcd_ev {a b c d : Int} (ha : a.natAbs < 1000000000000) (hb : b.natAbs < 1000000000000) (hc : c.natAbs < 1000000000000) (hd : d.natAbs < 1000000000000) :
    Ev (fun k => spec_l3NumGcd.f k [nm a, nm b, nm c, nm d]) (false, dg (g4 a b c d)) := by
  have e0 := Of_ev (x := 0) (by decide)
  have q1 := gcd_lt (x := 0) (by omega) ha
  have q2 := gcd_lt q1 hb
  have q3 := gcd_lt q2 hc
  refine Ev.of_bind e0 ?_
  exact gcdS_step (i := 0) (by simp) (by simp) rfl ha (by decide) (gcdS_step (i := 1) (by simp) (by simp) rfl hb q1 (gcdS_step (i := 2) (by simp) (by simp) rfl hc q2 (gcdS_step (i := 3) (by simp) (by simp) rfl hd q3 gcdS_end)))
theorem small_l0 {D : List Int} (hD : DG D) (hl : D.length ≤ 4) {neg : Bool} {d2 : List Int} {v : Int × Bool} : ∀ (i : Nat) (acc : Int), i ≤ D.length → 0 ≤ acc → acc * P i + val (D.take i) < 1000000000000000 →
    Ev (fun k => spec_Small.l0 k D (acc * P i + val (D.take i)) (-1) neg d2) v → Ev (fun k => spec_Small.l0 k D acc ((i : Int) - 1) neg d2) v := by
  intro i
  induction i with
  | zero =>
    intro acc _ h0 _ h
    simp only [P_zero, Int.mul_one, List.take_zero, val, Int.add_zero] at h
    exact h
  | succ i ih =>
    intro acc hi h0 hb h
    have hi1 : i < D.length := by omega
    have hp : 0 ≤ D[i] ∧ D[i] ≤ 9999 := hD _ (List.getElem_mem hi1)
    have e : (((i + 1 : Nat) : Int) - 1) = (i : Int) := by omega
    have hs : acc * P (i + 1) + val (D.take (i + 1)) = (acc * 10000 + D[i]) * P i + val (D.take i) := by
      rw [val_take_succ hi1, P_succ]; grind
    rw [hs] at hb h
    have hn := val_nn (hD.take i)
    have b1 := horner_bd (by omega) (P_one_le i) hn hb
    have nx := ih _ (by omega) (by omega) hb h
    clear hs hb h hn
    have u1 : IntKind.u64.wrap (IntKind.u64.wrap (acc * 10000) + IntKind.u64.wrap D[i]) = acc * 10000 + D[i] := by
      rw [u64_id (n := acc * 10000) (by omega) (by omega), u64_id (n := D[i]) (by omega) (by omega), u64_id (by omega) (by omega)]
    refine Ev.succ (fun k => ?_) nx
    show spec_Small.l0 (k + 1) D acc (((i + 1 : Nat) : Int) - 1) neg d2 = _
    rw [e]
    conv => lhs; unfold spec_Small.l0
    rw [if_pos (by omega), if_neg (by omega), if_pos (by omega), if_pos (by omega), rd_get hi1, u1, wrap_id (by omega) (by omega)]
theorem small_ev {neg : Bool} {n : Nat} (hn : n < 1000000000000) (hneg : neg = true → n ≠ 0) : Ev (fun k => spec_Small.f k neg (dg n)) (if neg = true then -(n : Int) else (n : Int), true) := by
  have ln := dg_len12 hn
  have hs := sign_dg (n := n) (by omega) hneg
  refine Ev.of_bind (mag_dg (n := n) (by omega) hneg) ?_
  refine Ev.congr (fun k => if_neg (by omega)) ?_
  have key := small_l0 (dg_DG n) (by omega) (neg := neg) (d2 := dg n) (v := (if neg = true then -(n : Int) else (n : Int), true)) (dg n).length 0 (Nat.le_refl _) (by omega) (by rw [List.take_length, dg_val]; omega) (by
    rw [List.take_length, dg_val, Int.zero_mul, Int.zero_add]
    refine Ev.succ (g := fun k => (spec_l1Sign.f k neg (dg n)).bind fun t266 => (if t266 = true then (if (n : Int) > 9223372036854775808 then (some (0, false)) else (some (wrap64 ((wrap64 (-(wrap64 (IntKind.u64.wrap ((n : Int) - 1))))) - 1), true))) else (if (n : Int) ≥ 9223372036854775808 then (some (0, false)) else (some (wrap64 (n : Int), true))))) (fun k => ?_) (Ev.of_bind hs ?_)
    · show spec_Small.l0 (k + 1) (dg n) (n : Int) (-1) neg (dg n) = _
      conv => lhs; unfold spec_Small.l0
      rw [if_neg (by omega)]
    · cases neg
      · refine ⟨0, fun k _ => ?_⟩
        show (if false = true then _ else _) = _
        rw [if_neg (by simp), if_neg (by omega), wrap_id (by omega) (by omega), if_neg (by simp)]
      · have := hneg rfl
        refine ⟨0, fun k _ => ?_⟩
        show (if true = true then _ else _) = _
        rw [if_pos rfl, if_neg (by omega), u64_id (by omega) (by omega), wrap_id (x := (n : Int) - 1) (by omega) (by omega), wrap_id (x := -((n : Int) - 1)) (by omega) (by omega), wrap_id (by omega) (by omega), if_pos rfl]
        congr 2; omega)
  refine Ev.congr (fun k => ?_) key
  rw [wrap_id (by omega) (by omega)]
def pv (x : Int) (G : Nat) : Int := if x < 0 then -((x.natAbs / G : Nat) : Int) else ((x.natAbs / G : Nat) : Int)
theorem prim_unf {L : List NS} {acc : List Int} {i G : Nat} {x : Int} (k : Nat) (hi : i < 4) (hL : L.length = 4) (e : rd_T116 L (i : Int) = nm x) : spec_Primitive.l0 (k + 1) L acc (i : Int) false (dg G) = ((spec_l1DivMag.f k (dg x.natAbs) (dg G)).bind fun bt300 => ((spec_l1Num.f k (decide (x < 0)) bt300.1).bind fun bt307 => ((spec_Small.f k bt307.1 bt307.2).bind fun bt311 => (if bt311.2 = true then ((spec_l1In.f bt311.1 (-500) 500).bind fun t313 => (spec_Primitive.j2 k L acc (i : Int) bt311.1 (!t313) false (dg G))) else (spec_Primitive.j2 k L acc (i : Int) bt311.1 true false (dg G)))))) := by
  conv => lhs; unfold spec_Primitive.l0
  rw [if_pos (by omega), if_pos (by omega), if_pos (by omega), e]; rfl
theorem pv_sg (x : Int) (G : Nat) : (if (decide (x < 0) && decide (((x.natAbs / G : Nat) : Int) ≠ 0)) = true then -((x.natAbs / G : Nat) : Int) else ((x.natAbs / G : Nat) : Int)) = pv x G := by
  unfold pv
  generalize x.natAbs / G = z
  by_cases c : x < 0
  · by_cases cz : z = 0
    · subst cz; simp
    · rw [if_pos c, if_pos (by simp [c]; omega)]
  · rw [if_neg c, if_neg (by simp [c])]
theorem prim_j2 {L : List NS} {acc : List Int} {i : Nat} {x : Int} {D : List Int} {v : Int × Int × Int × Int × Int} (hi : i < 4) (ha : acc.length ≤ 4)
    (h : (-500 ≤ x ∧ x ≤ 500) → Ev (fun k => spec_Primitive.l0 k L (acc ++ [x]) ((i + 1 : Nat) : Int) false D) v) (h' : ¬(-500 ≤ x ∧ x ≤ 500) → v = (0, 0, 0, 0, 2)) : Ev (fun k => spec_Primitive.j2 k L acc (i : Int) x (!decide (-500 ≤ x ∧ x ≤ 500)) false D) v := by
  have wi : wrap64 ((i : Int) + 1) = ((i + 1 : Nat) : Int) := by rw [wrap_id (by omega) (by omega)]; omega
  by_cases c : -500 ≤ x ∧ x ≤ 500
  · rw [decide_eq_true c]
    refine Ev.succ (fun k => ?_) (h c)
    show spec_Primitive.j2 (k + 1) L acc (i : Int) x false false D = _
    conv => lhs; unfold spec_Primitive.j2
    rw [if_neg (by simp), if_pos (by omega), wi]
  · rw [decide_eq_false c, h' c]
    refine ⟨1, fun k hk => ?_⟩
    obtain ⟨k, rfl⟩ : ∃ m, k = m + 1 := ⟨k - 1, by omega⟩
    show spec_Primitive.j2 (k + 1) L acc (i : Int) x true false D = _
    unfold spec_Primitive.j2
    rw [if_pos rfl]
theorem prim_step {L : List NS} {acc : List Int} {i G : Nat} {x : Int} {v : Int × Int × Int × Int × Int} (hi : i < 4) (hL : L.length = 4) (e : rd_T116 L (i : Int) = nm x) (hx : x.natAbs < 1000000000000) (hG : 0 < G) (hG2 : G < 1000000000000) (ha : acc.length ≤ 4)
    (h : (-500 ≤ pv x G ∧ pv x G ≤ 500) → Ev (fun k => spec_Primitive.l0 k L (acc ++ [pv x G]) ((i + 1 : Nat) : Int) false (dg G)) v) (h' : ¬(-500 ≤ pv x G ∧ pv x G ≤ 500) → v = (0, 0, 0, 0, 2)) : Ev (fun k => spec_Primitive.l0 k L acc (i : Int) false (dg G)) v := by
  obtain ⟨q, e1, q1, q2, q3⟩ := div_dg (x := x.natAbs) (n := G) (by omega) hG2 hG
  have hlt : x.natAbs / G < 1000000000000 := Nat.lt_of_le_of_lt (Nat.div_le_self _ _) hx
  have e2 := l1Num_ev (neg := decide (x < 0)) q1 (by omega)
  rw [numV, q3, Int.toNat_natCast] at e2
  have e3 := small_ev (neg := decide (x < 0) && decide (((x.natAbs / G : Nat) : Int) ≠ 0)) (n := x.natAbs / G) hlt (fun h e => by rw [Bool.and_eq_true] at h; exact of_decide_eq_true h.2 (by rw [e]; rfl))
  rw [pv_sg] at e3
  refine Ev.succ (fun k => prim_unf k hi hL e) ?_
  refine Ev.of_bind e1 ?_
  refine Ev.of_bind e2 ?_
  refine Ev.of_bind e3 ?_
  refine Ev.congr (fun k => if_pos rfl) ?_
  refine Ev.congr (fun k => ?_) (prim_j2 hi ha h h')
  rw [l1In_f, Option.bind_some]
theorem prim_end {L : List NS} {a b c d : Int} {G : Nat} : Ev (fun k => spec_Primitive.l0 k L [a, b, c, d] ((4 : Nat) : Int) false (dg G)) (a, b, c, d, 0) := by
  refine ⟨1, fun k hk => ?_⟩
  obtain ⟨k, rfl⟩ : ∃ m, k = m + 1 := ⟨k - 1, by omega⟩
  show spec_Primitive.l0 (k + 1) L [a, b, c, d] ((4 : Nat) : Int) false (dg G) = _
  unfold spec_Primitive.l0
  rw [if_neg (by omega), if_pos (by simp), if_pos (by simp), if_pos (by simp), if_pos (by simp)]; rfl
def inC (x : Int) : Prop := -500 ≤ x ∧ x ≤ 500
instance (x : Int) : Decidable (inC x) := by unfold inC; infer_instance
def primV (a b c d : Int) (G : Nat) : Int × Int × Int × Int × Int := if inC (pv a G) ∧ inC (pv b G) ∧ inC (pv c G) ∧ inC (pv d G) then (pv a G, pv b G, pv c G, pv d G, 0) else (0, 0, 0, 0, 2)
theorem Primitive_ev {a b c d : Int} (ha : a.natAbs < 1000000000000) (hb : b.natAbs < 1000000000000) (hc : c.natAbs < 1000000000000) (hd : d.natAbs < 1000000000000) (hz : ¬(a = 0 ∧ b = 0 ∧ c = 0)) :
    Ev (fun k => spec_Primitive.f k a b c d) (primV a b c d (g4 a b c d)) := by
  have q1 := gcd_lt (x := 0) (by omega) ha
  have q2 := gcd_lt q1 hb
  have q3 := gcd_lt q2 hc
  have q4 : g4 a b c d < 1000000000000 := gcd_lt q3 hd
  have qp : 0 < g4 a b c d := by
    refine Nat.pos_of_ne_zero (fun e => hz ?_)
    have e1 := Nat.eq_zero_of_gcd_eq_zero_left e
    have e2 := Nat.eq_zero_of_gcd_eq_zero_left e1
    have e3 := Nat.eq_zero_of_gcd_eq_zero_left e2
    have f1 := Nat.eq_zero_of_gcd_eq_zero_right e1
    have f2 := Nat.eq_zero_of_gcd_eq_zero_right e2
    have f3 := Nat.eq_zero_of_gcd_eq_zero_right e3
    omega
  have eg := NumGcd_ev ha hb hc hd
  generalize g4 a b c d = G at *
  have loop : Ev (fun k => spec_Primitive.l0 k [nm a, nm b, nm c, nm d] [] ((0 : Nat) : Int) false (dg G)) (primV a b c d G) := by
    refine prim_step (i := 0) (by omega) rfl rfl ha qp q4 (by simp) (fun c0 => ?_) (fun c0 => if_neg (fun h => c0 h.1))
    refine prim_step (i := 1) (by omega) rfl rfl hb qp q4 (by simp) (fun c1 => ?_) (fun c1 => if_neg (fun h => c1 h.2.1))
    refine prim_step (i := 2) (by omega) rfl rfl hc qp q4 (by simp) (fun c2_ => ?_) (fun c2_ => if_neg (fun h => c2_ h.2.2.1))
    refine prim_step (i := 3) (by omega) rfl rfl hd qp q4 (by simp) (fun c3_ => ?_) (fun c3_ => if_neg (fun h => c3_ h.2.2.2))
    rw [show primV a b c d G = (pv a G, pv b G, pv c G, pv d G, 0) from if_pos ⟨c0, c1, c2_, c3_⟩]
    exact prim_end
  have j : Ev (fun k => spec_Primitive.j0 k a b c d false) (primV a b c d G) := by
    refine Ev.succ (fun k => by simp only [spec_Primitive.j0, Bool.false_eq_true, if_false]) (g := fun k => (spec_Of.f k a).bind fun bt268 => ((spec_Of.f k b).bind fun bt272 => ((spec_Of.f k c).bind fun bt276 => ((spec_Of.f k d).bind fun bt280 => ((some (([(⟨bt268.1, bt268.2⟩ : NS), (⟨bt272.1, bt272.2⟩ : NS), (⟨bt276.1, bt276.2⟩ : NS), (⟨bt280.1, bt280.2⟩ : NS)] : List NS) : List NS)).bind fun y284 => ((spec_l3NumGcd.f k y284).bind fun bt287 => (spec_Primitive.l0 k y284 (([] : List Int)) 0 bt287.1 bt287.2))))))) ?_
    refine Ev.of_bind (Of_ev (by omega)) ?_
    refine Ev.of_bind (Of_ev (by omega)) ?_
    refine Ev.of_bind (Of_ev (by omega)) ?_
    refine Ev.of_bind (Of_ev (by omega)) ?_
    refine Ev.congr (fun k => Option.bind_some _ _) ?_
    exact Ev.of_bind eg loop
  refine Ev.congr (fun k => ?_) j
  show spec_Primitive.f k a b c d = _
  unfold spec_Primitive.f
  by_cases c1 : a = 0
  · rw [if_pos c1]
    by_cases c2_ : b = 0
    · rw [if_pos c2_, show (c == 0) = false from by simp; exact fun h => hz ⟨c1, c2_, h⟩]
    · rw [if_neg c2_]
  · rw [if_neg c1]
theorem g4_one {a b c d d2 : Int} (h : Nat.gcd (Nat.gcd a.natAbs b.natAbs) (Nat.gcd c.natAbs d.natAbs) = 1) (hd : ∀ G : Nat, G ∣ a.natAbs → G ∣ b.natAbs → G ∣ c.natAbs → G ∣ d2.natAbs → G ∣ d.natAbs) : g4 a b c d2 = 1 := by
  have k1 : g4 a b c d2 ∣ Nat.gcd (Nat.gcd (Nat.gcd 0 a.natAbs) b.natAbs) c.natAbs := Nat.gcd_dvd_left _ _
  have kd : g4 a b c d2 ∣ d2.natAbs := Nat.gcd_dvd_right _ _
  have k2 := Nat.dvd_trans k1 (Nat.gcd_dvd_left _ _)
  have kc := Nat.dvd_trans k1 (Nat.gcd_dvd_right _ _)
  have ka := Nat.dvd_trans (Nat.dvd_trans k2 (Nat.gcd_dvd_left _ _)) (Nat.gcd_dvd_right _ _)
  have kb := Nat.dvd_trans k2 (Nat.gcd_dvd_right _ _)
  have := Nat.dvd_gcd (Nat.dvd_gcd ka kb) (Nat.dvd_gcd kc (hd _ ka kb kc kd))
  rw [h] at this
  exact Nat.dvd_one.mp this
theorem pv_one (x : Int) : pv x 1 = x := by
  unfold pv
  rw [Nat.div_one]
  split <;> omega
def shD (a b c d x y z : Int) : Int := d - (a * x + b * y + c * z)
theorem shD_bd {a b c d x y z : Int} (ha : -500 ≤ a ∧ a ≤ 500) (hb : -500 ≤ b ∧ b ≤ 500) (hc : -500 ≤ c ∧ c ≤ 500) (hd : -500 ≤ d ∧ d ≤ 500) (hx : -1000000 ≤ x ∧ x ≤ 1000000) (hy : -1000000 ≤ y ∧ y ≤ 1000000) (hz : -1000000 ≤ z ∧ z ≤ 1000000) :
    (-1500000500 ≤ shD a b c d x y z ∧ shD a b c d x y z ≤ 1500000500) ∧ wrap64 (d - wrap64 (wrap64 (wrap64 (a * x) + wrap64 (b * y)) + wrap64 (c * z))) = shD a b c d x y z := by
  have m1 := mul_bd ha hx; have m2 := mul_bd hb hy; have m3 := mul_bd hc hz
  have e : wrap64 (d - wrap64 (wrap64 (wrap64 (a * x) + wrap64 (b * y)) + wrap64 (c * z))) = wrap64 (d - (a * x + b * y + c * z)) := by simp only [wr_add_l, wr_add_r, wr_sub_r]
  have bd : -1500000500 ≤ d - (a * x + b * y + c * z) ∧ d - (a * x + b * y + c * z) ≤ 1500000500 := by omega
  refine ⟨bd, ?_⟩
  rw [e]
  exact wrap_id (by omega) (by omega)
theorem shD_dvd {a b c d x y z : Int} (G : Nat) (ha : G ∣ a.natAbs) (hb : G ∣ b.natAbs) (hc : G ∣ c.natAbs) (hd : G ∣ (shD a b c d x y z).natAbs) : G ∣ d.natAbs := by
  have ka := Int.ofNat_dvd_left.mpr ha; have kb := Int.ofNat_dvd_left.mpr hb; have kc := Int.ofNat_dvd_left.mpr hc; have kd := Int.ofNat_dvd_left.mpr hd
  have e : d = shD a b c d x y z + (a * x + b * y + c * z) := by unfold shD; omega
  refine Int.ofNat_dvd_left.mp ?_
  rw [e]
  exact Int.dvd_add kd (Int.dvd_add (Int.dvd_add (Int.dvd_mul_of_dvd_left ka) (Int.dvd_mul_of_dvd_left kb)) (Int.dvd_mul_of_dvd_left kc))
def shV (a b c d x y z : Int) : Int × Int × Int × Int × Int := if plOk a b c d = true ∧ ((-1000000 ≤ x ∧ x ≤ 1000000) ∧ (-1000000 ≤ y ∧ y ≤ 1000000) ∧ (-1000000 ≤ z ∧ z ≤ 1000000)) then (if inC (shD a b c d x y z) then (a, b, c, shD a b c d x y z, 0) else (0, 0, 0, 0, 2)) else (0, 0, 0, 0, 1)
theorem spec_Shifted_ev (a b c d x y z : Int) : Ev (fun k => spec_Shifted.f k a b c d x y z) (shV a b c d x y z) := by
  have no : Ev (fun k => spec_Shifted.j0 k true a b c d x y z) (0, 0, 0, 0, 1) := ⟨1, fun k hk => by
    obtain ⟨k, rfl⟩ : ∃ m, k = m + 1 := ⟨k - 1, by omega⟩
    rfl⟩
  refine Ev.of_bind (spec_PlaneOk_ev a b c d) ?_
  unfold shV
  by_cases p : plOk a b c d = true
  · refine Ev.congr (fun k => if_pos p) ?_
    refine Ev.congr (fun k => by rw [spec_PtOk_f, Option.bind_some]) (f := fun k => spec_Shifted.j0 k (!decide ((-1000000 ≤ x ∧ x ≤ 1000000) ∧ (-1000000 ≤ y ∧ y ≤ 1000000) ∧ (-1000000 ≤ z ∧ z ≤ 1000000))) a b c d x y z) ?_
    by_cases q : (-1000000 ≤ x ∧ x ≤ 1000000) ∧ (-1000000 ≤ y ∧ y ≤ 1000000) ∧ (-1000000 ≤ z ∧ z ≤ 1000000)
    · rw [if_pos ⟨p, q⟩, decide_eq_true q]
      obtain ⟨ha, hb, hc, hd, hnz, hg⟩ := plOk_iff.mp p
      obtain ⟨bd, hw⟩ := shD_bd ha hb hc hd q.1 q.2.1 q.2.2
      have key := Primitive_ev (a := a) (b := b) (c := c) (d := shD a b c d x y z) (by omega) (by omega) (by omega) (by omega) (by omega)
      rw [g4_one hg (fun G => shD_dvd G)] at key
      simp only [primV, pv_one] at key
      have ev : (if inC a ∧ inC b ∧ inC c ∧ inC (shD a b c d x y z) then (a, b, c, shD a b c d x y z, (0 : Int)) else (0, 0, 0, 0, 2)) = (if inC (shD a b c d x y z) then (a, b, c, shD a b c d x y z, 0) else (0, 0, 0, 0, 2)) := by
        by_cases g : inC (shD a b c d x y z)
        · rw [if_pos g, if_pos ⟨ha, hb, hc, g⟩]
        · rw [if_neg g, if_neg (fun h => g h.2.2.2)]
      rw [ev] at key
      refine Ev.succ (g := fun k => spec_Primitive.f k a b c (shD a b c d x y z)) (fun k => ?_) key
      show spec_Shifted.j0 (k + 1) (!true) a b c d x y z = _
      simp only [spec_Shifted.j0, Bool.not_true, Bool.false_eq_true, if_false]
      rw [hw]
      cases spec_Primitive.f k a b c (shD a b c d x y z) <;> rfl
    · rw [if_neg (fun h => q h.2), decide_eq_false q]; exact no
  · rw [if_neg (fun h => p h.1)]
    exact Ev.congr (fun k => if_neg p) no
theorem isCoef_f (x : Int) : impl_isCoef.f x = some (decide (inC x)) := by
  simp only [impl_isCoef.f, inRange_f, Option.bind_some]; rfl
theorem impl_Shifted_ev (a b c d x y z : Int) : Ev (fun k => impl_Shifted.f k a b c d x y z) (shV a b c d x y z) := by
  have no : Ev (fun k => impl_Shifted.j0 k true a b c d x y z) (0, 0, 0, 0, 1) := ⟨1, fun k hk => by
    obtain ⟨k, rfl⟩ : ∃ m, k = m + 1 := ⟨k - 1, by omega⟩
    rfl⟩
  refine Ev.of_bind (impl_PlaneOk_ev a b c d) ?_
  unfold shV
  by_cases p : plOk a b c d = true
  · refine Ev.congr (fun k => if_pos p) ?_
    refine Ev.congr (fun k => by rw [impl_PtOk_f, Option.bind_some]) (f := fun k => impl_Shifted.j0 k (!decide ((-1000000 ≤ x ∧ x ≤ 1000000) ∧ (-1000000 ≤ y ∧ y ≤ 1000000) ∧ (-1000000 ≤ z ∧ z ≤ 1000000))) a b c d x y z) ?_
    by_cases q : (-1000000 ≤ x ∧ x ≤ 1000000) ∧ (-1000000 ≤ y ∧ y ≤ 1000000) ∧ (-1000000 ≤ z ∧ z ≤ 1000000)
    · rw [if_pos ⟨p, q⟩, decide_eq_true q]
      obtain ⟨ha, hb, hc, hd, hnz, hg⟩ := plOk_iff.mp p
      obtain ⟨bd, hw⟩ := shD_bd ha hb hc hd q.1 q.2.1 q.2.2
      refine ⟨1, fun k hk => ?_⟩
      obtain ⟨k, rfl⟩ : ∃ m, k = m + 1 := ⟨k - 1, by omega⟩
      show impl_Shifted.j0 (k + 1) (!true) a b c d x y z = _
      simp only [impl_Shifted.j0, Bool.not_true, Bool.false_eq_true, if_false]
      rw [hw, isCoef_f, Option.bind_some]
      by_cases g : inC (shD a b c d x y z)
      · rw [if_pos g, decide_eq_true g, if_pos rfl]
      · rw [if_neg g, decide_eq_false g, if_neg (by simp)]
    · rw [if_neg (fun h => q h.2), decide_eq_false q]; exact no
  · rw [if_neg (fun h => p h.1)]
    exact Ev.congr (fun k => if_neg p) no
theorem FnExactShifted_pure (a b c d x y z : Int) (_ : (Lit.int .i64 a).wf = true) (_ : (Lit.int .i64 b).wf = true) (_ : (Lit.int .i64 c).wf = true) (_ : (Lit.int .i64 d).wf = true)
    (_ : (Lit.int .i64 x).wf = true) (_ : (Lit.int .i64 y).wf = true) (_ : (Lit.int .i64 z).wf = true) : ∃ k, laws_FnExactShifted.f k a b c d x y z = some true := by
  obtain ⟨K, h⟩ := Ev.and (spec_Shifted_ev a b c d x y z) (impl_Shifted_ev a b c d x y z)
  obtain ⟨h1, h2⟩ := h (K + 1) (by omega)
  refine ⟨K + 1, ?_⟩
  simp only [laws_FnExactShifted.f, laws_toPlane.f, laws_toPt.f, h1, h2, Option.bind_some, eqPlane_self, if_true, laws_FnExactShifted.j0, bne_self_eq_false, Bool.false_eq_true, if_false]
end Go.Proofs.Ytndedincanmaeaa.Pure
