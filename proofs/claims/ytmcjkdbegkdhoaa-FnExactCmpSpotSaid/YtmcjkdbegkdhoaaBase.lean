/- Plain lemmas: wrap64, Ev, the greatest common divisor by both programs. -/
import Derived.Test.YtmcjkdbegkdhoaaPrint0
import Derived.Test.YtmcjkdbegkdhoaaPrint4
import Derived.Test.YtmcjkdbegkdhoaaPrint7
import Derived.Test.YtmcjkdbegkdhoaaPrint8
import Derived.Test.YtmcjkdbegkdhoaaPrint9
import Derived.Test.YtmcjkdbegkdhoaaPrint10
namespace Go.Proofs.Ytmcjkdbegkdhoaa.Pure
open Go.RowKit Go.Proofs.Ytmcjkdbegkdhoaa.Print Go.Proofs.YtmcjkdbegkdhoaaW.PrintWords Go.Proofs.YtmcjkdbegkdhoaaW.PrintLast Go.Proofs.YtmcjkdbegkdhoaaW.PrintMore
set_option linter.unusedSimpArgs false
set_option linter.unusedVariables false

theorem wrap_id {x : Int} (h0 : -9223372036854775808 ≤ x) (h1 : x ≤ 9223372036854775807) : wrap64 x = x := by
  unfold wrap64; omega
theorem Ev.now' {α : Type} {g : Nat → Option α} {r : α} (h : ∀ k, g k = some r) : Ev g r := ⟨0, fun k _ => h k⟩
theorem Ev.of_bind {α β : Type} {g : Nat → Option α} {f : Nat → α → Option β} {a : α} {r : β} (h : Ev g a) (k : Ev (fun n => f n a) r) : Ev (fun n => (g n).bind (f n)) r := Ev.bind h k
theorem Ev.and {α β : Type} {g : Nat → Option α} {f : Nat → Option β} {a : α} {b : β} (h : Ev g a) (k : Ev f b) : ∃ K, ∀ n, K ≤ n → g n = some a ∧ f n = some b := by
  obtain ⟨K1, h1⟩ := h
  obtain ⟨K2, h2⟩ := k
  exact ⟨K1 + K2, fun n hn => ⟨h1 n (by omega), h2 n (by omega)⟩⟩

-- spec
theorem l3Abs_f {a : Int} (h : -9223372036854775807 ≤ a) (h1 : a ≤ 9223372036854775807) : spec_l3Abs.f a = some (a.natAbs : Int) := by
  unfold spec_l3Abs.f
  by_cases c : a < 0
  · rw [if_pos c, wrap_id (by omega) (by omega)]; congr 1; omega
  · rw [if_neg c]; congr 1; omega
theorem l3Gcd_l0 : ∀ (b a k : Nat), b < k → spec_l3Gcd.l0 k (a : Int) (b : Int) = some ((Nat.gcd a b : Nat) : Int) := by
  intro b
  induction b using Nat.strongRecOn with
  | _ b ih =>
    intro a k hk
    obtain ⟨k, rfl⟩ : ∃ m, k = m + 1 := ⟨k - 1, by omega⟩
    unfold spec_l3Gcd.l0
    by_cases c : b = 0
    · subst c; rw [if_neg (by omega)]; simp
    · rw [if_pos (by omega), if_neg (by omega), show Int.tmod (a : Int) (b : Int) = ((a % b : Nat) : Int) from rfl]
      have hlt : a % b < b := Nat.mod_lt _ (by omega)
      rw [ih (a % b) hlt b k (by omega)]
      congr 2
      rw [Nat.gcd_comm a b, Nat.gcd_rec b a]
      exact Nat.gcd_comm _ _
theorem l3Gcd_ev {a b : Int} (h : -9223372036854775807 ≤ a) (h1 : a ≤ 9223372036854775807) (h2 : -9223372036854775807 ≤ b) (h3 : b ≤ 9223372036854775807) :
    Ev (fun k => spec_l3Gcd.f k a b) ((Nat.gcd a.natAbs b.natAbs : Nat) : Int) := by
  refine ⟨b.natAbs + 1, fun k hk => ?_⟩
  simp only [spec_l3Gcd.f, l3Abs_f h h1, l3Abs_f h2 h3, Option.bind_some]
  exact l3Gcd_l0 _ _ _ (by omega)

-- impl
theorem mx_abs {x : Int} (h : -9223372036854775807 ≤ x) (h1 : x ≤ 9223372036854775807) : mx x (wrap64 (-x)) = (x.natAbs : Int) := by
  rw [wrap_id (by omega) (by omega)]; unfold mx; split <;> omega
theorem divisor_l1 {xs : List Int} {len i : Int} {r : Int} : ∀ (n g : Nat), Ev (fun k => impl_divisor.l0 k ((Nat.gcd g n : Nat) : Int) xs len (wrap64 (i + 1))) r → Ev (fun k => impl_divisor.l1 k (g : Int) (n : Int) xs len i) r := by
  intro n
  induction n using Nat.strongRecOn with
  | _ n ih =>
    intro g h
    by_cases c : n = 0
    · subst c
      refine Ev.step (fun k => ?_) h
      simp [impl_divisor.l1]
    · refine Ev.step (f := fun k => impl_divisor.l1 k (n : Int) ((g % n : Nat) : Int) xs len i) (fun k => ?_) (ih (g % n) (Nat.mod_lt _ (by omega)) n ?_)
      · simp only [impl_divisor.l1]; rw [if_neg (by omega)]; rfl
      · have e : Nat.gcd n (g % n) = Nat.gcd g n := by rw [Nat.gcd_comm g n, Nat.gcd_rec n g]; exact Nat.gcd_comm _ _
        rw [e]; exact h
theorem divisor_l0 {xs : List Int} {len i : Int} {r : Int} {g : Nat} (h0 : 0 ≤ i) (h1 : i < len) (h2 : i < (xs.length : Int)) (b0 : -9223372036854775807 ≤ rd xs i) (b1 : rd xs i ≤ 9223372036854775807)
    (h : Ev (fun k => impl_divisor.l0 k ((Nat.gcd g (rd xs i).natAbs : Nat) : Int) xs len (wrap64 (i + 1))) r) : Ev (fun k => impl_divisor.l0 k (g : Int) xs len i) r := by
  refine Ev.step (f := fun k => impl_divisor.l1 k (g : Int) ((rd xs i).natAbs : Int) xs len i) (fun k => ?_) (divisor_l1 _ _ h)
  simp only [impl_divisor.l0]; rw [if_pos h1, if_pos h0, if_pos h2, mx_abs b0 b1]
theorem divisor4_ev {a b c d : Int} (ha : -9223372036854775807 ≤ a ∧ a ≤ 9223372036854775807) (hb : -9223372036854775807 ≤ b ∧ b ≤ 9223372036854775807) (hc : -9223372036854775807 ≤ c ∧ c ≤ 9223372036854775807) (hd : -9223372036854775807 ≤ d ∧ d ≤ 9223372036854775807) :
    Ev (fun k => impl_divisor.f k [a, b, c, d]) ((Nat.gcd (Nat.gcd a.natAbs b.natAbs) (Nat.gcd c.natAbs d.natAbs) : Nat) : Int) := by
  have e : Nat.gcd (Nat.gcd a.natAbs b.natAbs) (Nat.gcd c.natAbs d.natAbs) = Nat.gcd (Nat.gcd (Nat.gcd (Nat.gcd 0 a.natAbs) b.natAbs) c.natAbs) d.natAbs := by
    rw [Nat.gcd_zero_left, Nat.gcd_assoc (Nat.gcd a.natAbs b.natAbs)]
  rw [e]
  refine Ev.congr (f := fun k => impl_divisor.l0 k ((0 : Nat) : Int) [a, b, c, d] 4 0) (fun k => rfl) ?_
  refine divisor_l0 (by omega) (by omega) (by simp) (by simpa [rd] using ha.1) (by simpa [rd] using ha.2) ?_
  rw [show wrap64 (0 + 1) = 1 from wrap_id (by omega) (by omega)]
  refine divisor_l0 (by omega) (by omega) (by simp) (by simpa [rd] using hb.1) (by simpa [rd] using hb.2) ?_
  rw [show wrap64 (1 + 1) = 2 from wrap_id (by omega) (by omega)]
  refine divisor_l0 (by omega) (by omega) (by simp) (by simpa [rd] using hc.1) (by simpa [rd] using hc.2) ?_
  rw [show wrap64 (2 + 1) = 3 from wrap_id (by omega) (by omega)]
  refine divisor_l0 (by omega) (by omega) (by simp) (by simpa [rd] using hd.1) (by simpa [rd] using hd.2) ?_
  rw [show wrap64 (3 + 1) = 4 from wrap_id (by omega) (by omega)]
  refine ⟨1, fun k hk => ?_⟩
  obtain ⟨k, rfl⟩ : ∃ m, k = m + 1 := ⟨k - 1, by omega⟩
  simp [impl_divisor.l0, rd]

/-- a plane is right -/
def PlOk (a b c d : Int) : Prop := (-500 ≤ a ∧ a ≤ 500) ∧ (-500 ≤ b ∧ b ≤ 500) ∧ (-500 ≤ c ∧ c ≤ 500) ∧ (-500 ≤ d ∧ d ≤ 500) ∧ (a ≠ 0 ∨ b ≠ 0 ∨ c ≠ 0) ∧ Nat.gcd (Nat.gcd a.natAbs b.natAbs) (Nat.gcd c.natAbs d.natAbs) = 1
instance (a b c d : Int) : Decidable (PlOk a b c d) := by unfold PlOk; infer_instance
def plOk (a b c d : Int) : Bool := decide (PlOk a b c d)
theorem plOk_iff {a b c d : Int} : plOk a b c d = true ↔ PlOk a b c d := by simp [plOk]

theorem l1In_f (a b c : Int) : spec_l1In.f a b c = some (decide (b ≤ a ∧ a ≤ c)) := by
  unfold spec_l1In.f
  split
  · rename_i h; exact congrArg some (decide_eq_decide.mpr (by omega))
  · rename_i h; exact congrArg some (decide_eq_false (by omega)).symm
theorem inRange_f (a b c : Int) : impl_inRange.f a b c = some (decide (b ≤ a ∧ a ≤ c)) := by
  unfold impl_inRange.f
  split
  · rename_i h; exact congrArg some (decide_eq_decide.mpr (by omega))
  · rename_i h; exact congrArg some (decide_eq_false (by omega)).symm

theorem plOk_in {a b c d : Int} (hr : (-500 ≤ a ∧ a ≤ 500) ∧ (-500 ≤ b ∧ b ≤ 500) ∧ (-500 ≤ c ∧ c ≤ 500) ∧ (-500 ≤ d ∧ d ≤ 500)) :
    plOk a b c d = (decide (a ≠ 0 ∨ b ≠ 0 ∨ c ≠ 0) && (((Nat.gcd (Nat.gcd a.natAbs b.natAbs) (Nat.gcd c.natAbs d.natAbs) : Nat) : Int) == 1)) := by
  obtain ⟨h1, h2, h3, h4⟩ := hr
  have e : ∀ n : Nat, (((n : Int) == 1) : Bool) = decide (n = 1) := by intro n; by_cases h : n = 1 <;> simp [h]; omega
  rw [e]
  simp only [plOk, PlOk, h1, h2, h3, h4, and_self, true_and, Bool.decide_and]

theorem spec_PlaneOk_ev (a b c d : Int) : Ev (fun k => spec_PlaneOk.f k a b c d) (plOk a b c d) := by
  by_cases hr : (-500 ≤ a ∧ a ≤ 500) ∧ (-500 ≤ b ∧ b ≤ 500) ∧ (-500 ≤ c ∧ c ≤ 500) ∧ (-500 ≤ d ∧ d ≤ 500)
  · have ⟨ha, hb, hc, hd⟩ := hr
    obtain ⟨K1, h1⟩ := l3Gcd_ev (a := a) (b := b) (by omega) (by omega) (by omega) (by omega)
    obtain ⟨K2, h2⟩ := l3Gcd_ev (a := c) (b := d) (by omega) (by omega) (by omega) (by omega)
    have la : Nat.gcd a.natAbs b.natAbs ≤ 500 := by
      by_cases z : a = 0
      · subst z; rw [Int.natAbs_zero, Nat.gcd_zero_left]; omega
      · exact Nat.le_trans (Nat.gcd_le_left _ (by omega)) (by omega)
    have lc : Nat.gcd c.natAbs d.natAbs ≤ 500 := by
      by_cases z : c = 0
      · subst z; rw [Int.natAbs_zero, Nat.gcd_zero_left]; omega
      · exact Nat.le_trans (Nat.gcd_le_left _ (by omega)) (by omega)
    obtain ⟨K3, h3⟩ := l3Gcd_ev (a := ((Nat.gcd a.natAbs b.natAbs : Nat) : Int)) (b := ((Nat.gcd c.natAbs d.natAbs : Nat) : Int)) (by omega) (by omega) (by omega) (by omega)
    refine ⟨K1 + K2 + K3, fun k hk => ?_⟩
    have g1 : spec_l3Gcd.f k a b = _ := h1 k (by omega)
    have g2 : spec_l3Gcd.f k c d = _ := h2 k (by omega)
    have g3 : spec_l3Gcd.f k ((Nat.gcd a.natAbs b.natAbs : Nat) : Int) ((Nat.gcd c.natAbs d.natAbs : Nat) : Int) = _ := h3 k (by omega)
    simp only [Int.natAbs_natCast] at g3
    simp only [spec_PlaneOk.f, spec_l3In.f, l1In_f, Option.bind_some, ha, hb, hc, hd, and_self, decide_true, if_true, g1, g2, g3, plOk_in hr]
    by_cases za : a = 0 <;> by_cases zb : b = 0 <;> by_cases zc : c = 0 <;> simp [za, zb, zc]
  · refine ⟨0, fun k _ => ?_⟩
    have hz : plOk a b c d = false := by simp only [plOk, decide_eq_false_iff_not]; intro h; exact hr ⟨h.1, h.2.1, h.2.2.1, h.2.2.2.1⟩
    rw [hz]
    simp only [spec_PlaneOk.f, spec_l3In.f, l1In_f, Option.bind_some]
    by_cases ca : (-500 ≤ a ∧ a ≤ 500) <;> by_cases cb : (-500 ≤ b ∧ b ≤ 500) <;> by_cases cc : (-500 ≤ c ∧ c ≤ 500) <;> by_cases cd : (-500 ≤ d ∧ d ≤ 500) <;> first | (simp [ca, cb, cc, cd]; done) | exact absurd ⟨ca, cb, cc, cd⟩ hr

theorem impl_PlaneOk_ev (a b c d : Int) : Ev (fun k => impl_PlaneOk.f k a b c d) (plOk a b c d) := by
  by_cases hr : (-500 ≤ a ∧ a ≤ 500) ∧ (-500 ≤ b ∧ b ≤ 500) ∧ (-500 ≤ c ∧ c ≤ 500) ∧ (-500 ≤ d ∧ d ≤ 500)
  · have ⟨ha, hb, hc, hd⟩ := hr
    obtain ⟨K1, h1⟩ := divisor4_ev (a := a) (b := b) (c := c) (d := d) (by omega) (by omega) (by omega) (by omega)
    refine ⟨K1 + 1, fun k hk => ?_⟩
    obtain ⟨k, rfl⟩ : ∃ m, k = m + 1 := ⟨k - 1, by omega⟩
    have g1 : impl_divisor.f k [a, b, c, d] = _ := h1 k (by omega)
    simp only [impl_PlaneOk.f, impl_PlaneOk.j0, impl_isCoef.f, inRange_f, Option.bind_some, ha, hb, hc, hd, and_self, decide_true, if_true, Bool.not_true, Bool.false_eq_true, if_false, g1, plOk_in hr]
    by_cases za : a = 0 <;> by_cases zb : b = 0 <;> by_cases zc : c = 0 <;> simp [za, zb, zc]
  · refine ⟨1, fun k hk => ?_⟩
    obtain ⟨k, rfl⟩ : ∃ m, k = m + 1 := ⟨k - 1, by omega⟩
    have hz : plOk a b c d = false := by simp only [plOk, decide_eq_false_iff_not]; intro h; exact hr ⟨h.1, h.2.1, h.2.2.1, h.2.2.2.1⟩
    rw [hz]
    simp only [impl_PlaneOk.f, impl_PlaneOk.j0, impl_isCoef.f, inRange_f, Option.bind_some]
    by_cases ca : (-500 ≤ a ∧ a ≤ 500) <;> by_cases cb : (-500 ≤ b ∧ b ≤ 500) <;> by_cases cc : (-500 ≤ c ∧ c ≤ 500) <;> by_cases cd : (-500 ≤ d ∧ d ≤ 500) <;> first | (simp [ca, cb, cc, cd]; done) | exact absurd ⟨ca, cb, cc, cd⟩ hr
end Go.Proofs.Ytmcjkdbegkdhoaa.Pure
