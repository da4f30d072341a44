/- Plain lemmas over the printed functions: rounds enough; whole numbers; a plane is right. -/
import Derived.Test.YtalkkenkeilmpaaGreatG7
namespace Go.Proofs.YtalkkenkeilmpaaGreat.Q
open Go Go.RowKit Go.Proofs Go.Proofs.YtalkkenkeilmpaaGreat.Ev Go.Proofs.YtalkkenkeilmpaaGreat.G
set_option linter.unusedSimpArgs false
set_option linter.unusedVariables false

/-- with rounds enough it is 'r'. -/
def Ev {α : Type} (f : Nat → Option α) (r : α) : Prop := ∃ K, ∀ k, K ≤ k → f k = some r
def Lv {α : Type} (f : Nat → Nat → Option α) (r : α) : Prop := ∃ K, ∀ k n, K ≤ k → K ≤ n → f k n = some r
theorem Ev.now {α : Type} {f : Nat → Option α} {r : α} (h : ∀ k, f k = some r) : Ev f r := ⟨0, fun k _ => h k⟩
theorem Lv.now {α : Type} {f : Nat → Nat → Option α} {r : α} (h : ∀ k n, f k n = some r) : Lv f r := ⟨0, fun k n _ _ => h k n⟩
theorem Lv.ev {α : Type} {f : Nat → Nat → Option α} {r : α} (h : Lv f r) : Ev (fun k => f k k) r := by
  obtain ⟨K, h⟩ := h; exact ⟨K, fun k hk => h k k hk hk⟩
theorem Ev.lv {α : Type} {f : Nat → Option α} {r : α} (h : Ev f r) : Lv (fun k _ => f k) r := by
  obtain ⟨K, h⟩ := h; exact ⟨K, fun k n hk _ => h k hk⟩
theorem Ev.bind {α β : Type} {f : Nat → Option α} {g : Nat → α → Option β} {a : α} {r : β} (h : Ev f a) (h2 : Ev (fun k => g k a) r) : Ev (fun k => (f k).bind (g k)) r := by
  obtain ⟨K, h⟩ := h; obtain ⟨K2, h2⟩ := h2
  exact ⟨K + K2, fun k hk => by show (f k).bind (g k) = _; rw [h k (by omega)]; exact h2 k (by omega)⟩
theorem Lv.bind {α β : Type} {f : Nat → Option α} {g : Nat → Nat → α → Option β} {a : α} {r : β} (h : Ev f a) (h2 : Lv (fun k n => g k n a) r) : Lv (fun k n => (f k).bind (g k n)) r := by
  obtain ⟨K, h⟩ := h; obtain ⟨K2, h2⟩ := h2
  exact ⟨K + K2, fun k n hk hn => by show (f k).bind (g k n) = _; rw [h k (by omega)]; exact h2 k n (by omega) (by omega)⟩
theorem Lv.step {α : Type} {f g : Nat → Nat → Option α} {r : α} (h : Lv g r) (e : ∀ k n, f k (n + 1) = g k n) : Lv f r := by
  obtain ⟨K, h⟩ := h
  refine ⟨K + 1, fun k n hk hn => ?_⟩
  obtain ⟨m, rfl⟩ : ∃ m, n = m + 1 := ⟨n - 1, by omega⟩
  rw [e]; exact h k m (by omega) (by omega)
theorem Ev.succ {α : Type} {f g : Nat → Option α} {r : α} (h : Ev g r) (e : ∀ k, f (k + 1) = g k) : Ev f r := by
  obtain ⟨K, h⟩ := h
  refine ⟨K + 1, fun k hk => ?_⟩
  obtain ⟨m, rfl⟩ : ∃ m, k = m + 1 := ⟨k - 1, by omega⟩
  rw [e]; exact h m (by omega)
theorem Ev.congr {α : Type} {f g : Nat → Option α} {r : α} (h : Ev f r) (e : ∀ k, g k = f k) : Ev g r := by
  obtain ⟨K, h⟩ := h; exact ⟨K, fun k hk => (e k).trans (h k hk)⟩
theorem Lv.congr {α : Type} {f g : Nat → Nat → Option α} {r : α} (h : Lv f r) (e : ∀ k n, g k n = f k n) : Lv g r := by
  obtain ⟨K, h⟩ := h; exact ⟨K, fun k n hk hn => (e k n).trans (h k n hk hn)⟩
theorem Ev.one {α β : Type} {f : Nat → Option α} {a : α} {g : α → β} (h : Ev f a) : Ev (fun k => (f k).bind fun t => some (g t)) (g a) := h.bind (.now fun _ => rfl)

theorem W_def (x : Int) : W x = wrap64 x := by show IntKind.i64.wrap x = wrap64 x; rw [IntKind.wrap_i64]; unfold wrap64; omega
theorem W_id {x : Int} (h0 : -9223372036854775808 ≤ x) (h1 : x ≤ 9223372036854775807) : W x = x := by
  rw [W_def]; unfold wrap64; omega
theorem W_bd (x : Int) : -9223372036854775808 ≤ W x ∧ W x ≤ 9223372036854775807 := by
  rw [W_def]; unfold wrap64; omega
theorem W_add_l (a b : Int) : W (W a + b) = W (a + b) := by simp only [W_def]; unfold wrap64; omega
theorem W_add_r (a b : Int) : W (a + W b) = W (a + b) := by simp only [W_def]; unfold wrap64; omega
theorem W_sub_l (a b : Int) : W (W a - b) = W (a - b) := by simp only [W_def]; unfold wrap64; omega
theorem W_sub_r (a b : Int) : W (a - W b) = W (a - b) := by simp only [W_def]; unfold wrap64; omega
theorem W_0 : W 0 = 0 := W_id (by omega) (by omega)
theorem W_1 : W 1 = 1 := W_id (by omega) (by omega)
theorem W_2 : W 2 = 2 := W_id (by omega) (by omega)
theorem W_3 : W 3 = 3 := W_id (by omega) (by omega)
theorem W_4 : W 4 = 4 := W_id (by omega) (by omega)
theorem mul_bd {x y X Y : Int} (hx : -X ≤ x ∧ x ≤ X) (hy : -Y ≤ y ∧ y ≤ Y) : -(X * Y) ≤ x * y ∧ x * y ≤ X * Y := by
  have hX : 0 ≤ X := by omega
  have hY : 0 ≤ Y := by omega
  have hq : (x * y).natAbs ≤ (X * Y).natAbs := by
    rw [Int.natAbs_mul, Int.natAbs_mul]
    exact Nat.mul_le_mul (by omega) (by omega)
  have hp : 0 ≤ X * Y := Int.mul_nonneg hX hY
  omega
theorem ne_iff {a b : Int} : (a != b) = true ↔ a ≠ b := by simp
theorem eq_iff {a b : Int} : (a == b) = true ↔ a = b := by simp

/-! ### a plane is right -/
theorem l3Abs_f {a : Int} (k : Nat) (h : -9223372036854775807 ≤ a) (h1 : a ≤ 9223372036854775807) : spec_l3Abs.f k a = some (a.natAbs : Int) := by
  simp only [spec_l3Abs.f, decide_eq_true_eq]
  by_cases c : a < 0
  · rw [if_pos c, W_id (by omega) (by omega)]; congr 1; omega
  · rw [if_neg c]; congr 1; omega
theorem l3Gcd_lv : ∀ (b a : Nat), Lv (fun k n => spec_l3Gcd.l3 k n (a : Int) (b : Int)) ((((Nat.gcd a b : Nat) : Int), ()), ()) := by
  intro b
  induction b using Nat.strongRecOn with
  | _ b ih =>
    intro a
    refine Lv.step (g := fun k n => spec_l3Gcd.s3 k (spec_l3Gcd.l3 k n) (a : Int) (b : Int)) ?_ (fun _ _ => rfl)
    simp only [spec_l3Gcd.s3, decide_eq_true_eq]
    by_cases c : b = 0
    · subst c; exact .now fun _ _ => by simp
    · have hlt : a % b < b := Nat.mod_lt _ (by omega)
      have e : Nat.gcd a b = Nat.gcd b (a % b) := by rw [Nat.gcd_comm a b, Nat.gcd_rec b a]; exact Nat.gcd_comm _ _
      rw [e]
      refine (ih (a % b) hlt b).congr fun k n => ?_
      rw [if_pos (by omega), if_neg (by omega)]; rfl
theorem l3Gcd_ev {a b : Int} (h : -9223372036854775807 ≤ a ∧ a ≤ 9223372036854775807) (h2 : -9223372036854775807 ≤ b ∧ b ≤ 9223372036854775807) :
    Ev (fun k => spec_l3Gcd.f k a b) ((Nat.gcd a.natAbs b.natAbs : Nat) : Int) := by
  simp only [spec_l3Gcd.f, l3Abs_f _ h.1 h.2, l3Abs_f _ h2.1 h2.2, Option.bind_some]
  exact (l3Gcd_lv _ _).ev.one
def mx (a b : Int) : Int := if b > a then b else a
theorem mx_abs {x : Int} (h : -9223372036854775807 ≤ x ∧ x ≤ 9223372036854775807) : (if W (0 - x) > x then W (0 - x) else x) = (x.natAbs : Int) := by
  rw [W_id (by omega) (by omega)]; split <;> omega
theorem divisor_l6 {xs : List Int} {len i : Int} : ∀ (n g : Nat), Lv (fun k m => impl_divisor.l6 k m (g : Int) (n : Int) xs len i) ((((Nat.gcd g n : Nat) : Int), xs, len, i, ()), ()) := by
  intro n
  induction n using Nat.strongRecOn with
  | _ n ih =>
    intro g
    refine Lv.step (g := fun k m => impl_divisor.s6 k (impl_divisor.l6 k m) (g : Int) (n : Int) xs len i) ?_ (fun _ _ => rfl)
    simp only [impl_divisor.s6, ne_iff]
    by_cases c : n = 0
    · subst c; exact .now fun _ _ => by simp
    · have hlt : g % n < n := Nat.mod_lt _ (by omega)
      have e : Nat.gcd g n = Nat.gcd n (g % n) := by rw [Nat.gcd_comm g n, Nat.gcd_rec n g]; exact Nat.gcd_comm _ _
      rw [e]
      refine (ih (g % n) hlt n).congr fun k m => ?_
      rw [if_pos (by omega), if_neg (by omega)]; rfl
theorem divisor_l3 {xs : List Int} {i : Int} {r : impl_divisor.B3} {g : Nat} (h0 : 0 ≤ i) (h1 : i < (xs.length : Int)) (b : -9223372036854775807 ≤ rd xs i ∧ rd xs i ≤ 9223372036854775807)
    (h : Lv (fun k n => impl_divisor.l3 k n ((Nat.gcd g (rd xs i).natAbs : Nat) : Int) xs xs.length (W (i + 1))) r) : Lv (fun k n => impl_divisor.l3 k n (g : Int) xs xs.length i) r := by
  refine Lv.step (g := fun k n => impl_divisor.s3 k (impl_divisor.l3 k n) (g : Int) xs xs.length i) ?_ (fun _ _ => rfl)
  simp only [impl_divisor.s3, decide_eq_true_eq, if_pos h0, if_pos h1, mx_abs b]
  exact Lv.bind (divisor_l6 _ _).ev h
theorem divisor4_ev {a b c d : Int} (ha : -9223372036854775807 ≤ a ∧ a ≤ 9223372036854775807) (hb : -9223372036854775807 ≤ b ∧ b ≤ 9223372036854775807) (hc : -9223372036854775807 ≤ c ∧ c ≤ 9223372036854775807) (hd : -9223372036854775807 ≤ d ∧ d ≤ 9223372036854775807) :
    Ev (fun k => impl_divisor.f k [a, b, c, d]) ((Nat.gcd (Nat.gcd a.natAbs b.natAbs) (Nat.gcd c.natAbs d.natAbs) : Nat) : Int) := by
  have e : Nat.gcd (Nat.gcd a.natAbs b.natAbs) (Nat.gcd c.natAbs d.natAbs) = Nat.gcd (Nat.gcd (Nat.gcd (Nat.gcd 0 a.natAbs) b.natAbs) c.natAbs) d.natAbs := by
    rw [Nat.gcd_zero_left, Nat.gcd_assoc (Nat.gcd a.natAbs b.natAbs)]
  rw [e]
  simp only [impl_divisor.f]
  refine Ev.one (f := fun k => impl_divisor.l3 k k 0 [a, b, c, d] ([a, b, c, d].length : Int) 0) (g := fun x => x.1.1) (a := ((_, ()), ())) (Lv.ev (f := fun k n => impl_divisor.l3 k n 0 [a, b, c, d] ([a, b, c, d].length : Int) 0) ?_)
  refine divisor_l3 (g := 0) (by omega) (by simp) (by simp [rd]; omega) ?_
  rw [show W (0 + 1) = 1 from W_id (by omega) (by omega)]
  refine divisor_l3 (by omega) (by simp) (by simp [rd]; omega) ?_
  rw [show W (1 + 1) = 2 from W_id (by omega) (by omega)]
  refine divisor_l3 (by omega) (by simp) (by simp [rd]; omega) ?_
  rw [show W (2 + 1) = 3 from W_id (by omega) (by omega)]
  refine divisor_l3 (by omega) (by simp) (by simp [rd]; omega) ?_
  rw [show W (3 + 1) = 4 from W_id (by omega) (by omega)]
  refine Lv.step (g := fun k n => impl_divisor.s3 k (impl_divisor.l3 k n) _ [a, b, c, d] ([a, b, c, d].length : Int) 4) ?_ (fun _ _ => rfl)
  refine .now fun k n => ?_
  simp [impl_divisor.s3, rd]

/-- a plane is right -/
def PlOk (p : S4) : Prop := (-500 ≤ p.a ∧ p.a ≤ 500) ∧ (-500 ≤ p.b ∧ p.b ≤ 500) ∧ (-500 ≤ p.c ∧ p.c ≤ 500) ∧ (-500 ≤ p.d ∧ p.d ≤ 500) ∧ (p.a ≠ 0 ∨ p.b ≠ 0 ∨ p.c ≠ 0) ∧ Nat.gcd (Nat.gcd p.a.natAbs p.b.natAbs) (Nat.gcd p.c.natAbs p.d.natAbs) = 1
instance (p : S4) : Decidable (PlOk p) := by unfold PlOk; infer_instance
def okp (p : S4) : Bool := decide (PlOk p)
theorem okp_iff {p : S4} : okp p = true ↔ PlOk p := by simp [okp]

theorem l1In_f (k : Nat) (a b c : Int) : spec_l1In.f k a b c = some (decide (b ≤ a ∧ a ≤ c)) := by
  simp only [spec_l1In.f, decide_eq_true_eq]
  split
  · rename_i h; exact congrArg some (decide_eq_decide.mpr (by omega))
  · rename_i h; exact congrArg some (decide_eq_false (by omega)).symm
theorem inRange_f (k : Nat) (a b c : Int) : impl_inRange.f k a b c = some (decide (b ≤ a ∧ a ≤ c)) := by
  simp only [impl_inRange.f, decide_eq_true_eq]
  split
  · rename_i h; exact congrArg some (decide_eq_decide.mpr (by omega))
  · rename_i h; exact congrArg some (decide_eq_false (by omega)).symm

theorem plOk_in {p : S4} (hr : (-500 ≤ p.a ∧ p.a ≤ 500) ∧ (-500 ≤ p.b ∧ p.b ≤ 500) ∧ (-500 ≤ p.c ∧ p.c ≤ 500) ∧ (-500 ≤ p.d ∧ p.d ≤ 500)) :
    okp p = (decide (p.a ≠ 0 ∨ p.b ≠ 0 ∨ p.c ≠ 0) && (((Nat.gcd (Nat.gcd p.a.natAbs p.b.natAbs) (Nat.gcd p.c.natAbs p.d.natAbs) : Nat) : Int) == 1)) := by
  obtain ⟨h1, h2, h3, h4⟩ := hr
  have e : ∀ n : Nat, (((n : Int) == 1) : Bool) = decide (n = 1) := by intro n; by_cases h : n = 1 <;> simp [h]; omega
  rw [e]
  simp only [okp, PlOk, h1, h2, h3, h4, and_self, true_and, Bool.decide_and]
theorem W_n500 : W (0 - 500) = -500 := W_id (by omega) (by omega)
theorem gcd_le {x y : Int} (hx : -500 ≤ x ∧ x ≤ 500) (hy : -500 ≤ y ∧ y ≤ 500) : Nat.gcd x.natAbs y.natAbs ≤ 500 := by
  by_cases z : x = 0
  · subst z; rw [Int.natAbs_zero, Nat.gcd_zero_left]; omega
  · exact Nat.le_trans (Nat.gcd_le_left _ (by omega)) (by omega)

theorem spec_PlaneOk_ev (p : S4) : Ev (fun k => spec_PlaneOk.f k p) (okp p) := by
  simp only [spec_PlaneOk.f, spec_l3In.f, l1In_f, Option.bind_some, W_n500]
  by_cases hr : (-500 ≤ p.a ∧ p.a ≤ 500) ∧ (-500 ≤ p.b ∧ p.b ≤ 500) ∧ (-500 ≤ p.c ∧ p.c ≤ 500) ∧ (-500 ≤ p.d ∧ p.d ≤ 500)
  · have ⟨ha, hb, hc, hd⟩ := hr
    have la := gcd_le ha hb
    have lc := gcd_le hc hd
    have G : Ev (fun k => (spec_l3Gcd.f k p.a p.b).bind fun t2 => (spec_l3Gcd.f k p.c p.d).bind fun t3 => (spec_l3Gcd.f k t2 t3).bind fun t4 => some (t4 == 1)) (((Nat.gcd (Nat.gcd p.a.natAbs p.b.natAbs) (Nat.gcd p.c.natAbs p.d.natAbs) : Nat) : Int) == 1) := by
      refine (l3Gcd_ev (by omega) (by omega)).bind ((l3Gcd_ev (by omega) (by omega)).bind ?_)
      have := l3Gcd_ev (a := ((Nat.gcd p.a.natAbs p.b.natAbs : Nat) : Int)) (b := ((Nat.gcd p.c.natAbs p.d.natAbs : Nat) : Int)) (by omega) (by omega)
      simp only [Int.natAbs_natCast] at this
      exact this.one
    simp only [ha, hb, hc, hd, and_self, decide_true, if_true, Option.bind_some, ne_iff, plOk_in hr]
    by_cases za : p.a = 0
    · by_cases zb : p.b = 0
      · by_cases zc : p.c = 0
        · simp only [za, zb, zc, ne_eq, not_true_eq_false, if_false, or_self, decide_false, Bool.false_and]; exact .now fun _ => rfl
        · simp only [za, zb, zc, ne_eq, not_true_eq_false, if_false, not_false_eq_true, if_true, or_true, decide_true, Bool.true_and]; rw [za, zb] at G; exact G
      · simp only [za, zb, ne_eq, not_true_eq_false, if_false, not_false_eq_true, if_true, or_true, true_or, decide_true, Bool.true_and]; rw [za] at G; exact G
    · simp only [za, ne_eq, not_false_eq_true, if_true, true_or, decide_true, Bool.true_and]; exact G
  · refine .now fun k => ?_
    have hz : okp p = false := by simp only [okp, decide_eq_false_iff_not]; intro h; exact hr ⟨h.1, h.2.1, h.2.2.1, h.2.2.2.1⟩
    rw [hz]
    by_cases ca : (-500 ≤ p.a ∧ p.a ≤ 500) <;> by_cases cb : (-500 ≤ p.b ∧ p.b ≤ 500) <;> by_cases cc : (-500 ≤ p.c ∧ p.c ≤ 500) <;> by_cases cd : (-500 ≤ p.d ∧ p.d ≤ 500) <;> first | (simp [ca, cb, cc, cd]; done) | exact absurd ⟨ca, cb, cc, cd⟩ hr
theorem impl_PlaneOk_ev (p : S4) : Ev (fun k => impl_PlaneOk.f k p) (okp p) := by
  simp only [impl_PlaneOk.f, impl_isCoef.f, inRange_f, Option.bind_some]
  by_cases hr : (-500 ≤ p.a ∧ p.a ≤ 500) ∧ (-500 ≤ p.b ∧ p.b ≤ 500) ∧ (-500 ≤ p.c ∧ p.c ≤ 500) ∧ (-500 ≤ p.d ∧ p.d ≤ 500)
  · have ⟨ha, hb, hc, hd⟩ := hr
    have G : Ev (fun k => (impl_divisor.f k [p.a, p.b, p.c, p.d]).bind fun t => some (t == 1)) (((Nat.gcd (Nat.gcd p.a.natAbs p.b.natAbs) (Nat.gcd p.c.natAbs p.d.natAbs) : Nat) : Int) == 1) := (divisor4_ev (by omega) (by omega) (by omega) (by omega)).one
    simp only [ha, hb, hc, hd, and_self, decide_true, Bool.not_true, Bool.false_eq_true, if_false, ne_iff, plOk_in hr]
    by_cases za : p.a = 0
    · by_cases zb : p.b = 0
      · by_cases zc : p.c = 0
        · simp only [za, zb, zc, ne_eq, not_true_eq_false, if_false, or_self, decide_false, Bool.false_and]; exact .now fun _ => rfl
        · simp only [za, zb, zc, ne_eq, not_true_eq_false, if_false, not_false_eq_true, if_true, or_true, decide_true, Bool.true_and]; rw [za, zb] at G; exact G
      · simp only [za, zb, ne_eq, not_true_eq_false, if_false, not_false_eq_true, if_true, or_true, true_or, decide_true, Bool.true_and]; rw [za] at G; exact G
    · simp only [za, ne_eq, not_false_eq_true, if_true, true_or, decide_true, Bool.true_and]; exact G
  · refine .now fun k => ?_
    have hz : okp p = false := by simp only [okp, decide_eq_false_iff_not]; intro h; exact hr ⟨h.1, h.2.1, h.2.2.1, h.2.2.2.1⟩
    rw [hz]
    by_cases ca : (-500 ≤ p.a ∧ p.a ≤ 500) <;> by_cases cb : (-500 ≤ p.b ∧ p.b ≤ 500) <;> by_cases cc : (-500 ≤ p.c ∧ p.c ≤ 500) <;> by_cases cd : (-500 ≤ p.d ∧ p.d ≤ 500) <;> first | (simp [ca, cb, cc, cd]; done) | exact absurd ⟨ca, cb, cc, cd⟩ hr
end Go.Proofs.YtalkkenkeilmpaaGreat.Q
