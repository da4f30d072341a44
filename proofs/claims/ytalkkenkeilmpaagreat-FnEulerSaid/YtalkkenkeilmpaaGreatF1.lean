/- Points and planes: linear sums, big factors, Gordan's choice (a point on all sides, or weights under which all comes to nothing). -/
import Derived.Test.YtalkkenkeilmpaaGreatP4
namespace Go.Proofs.YtalkkenkeilmpaaGreat.Q
open Go Go.RowKit Go.Proofs Go.Proofs.YtalkkenkeilmpaaGreat.Ev Go.Proofs.YtalkkenkeilmpaaGreat.G
set_option linter.unusedSimpArgs false
set_option linter.unusedVariables false

/-- what a plane says of a spot -/
def sv (p s : S4) : Int := p.a * s.a + p.b * s.b + p.c * s.c + p.d * s.d
/-- a sum of two with factors -/
def ad (x : Int) (s : S4) (y : Int) (t : S4) : S4 := ⟨x * s.a + y * t.a, x * s.b + y * t.b, x * s.c + y * t.c, x * s.d + y * t.d⟩
theorem sv_ad (p : S4) (x : Int) (s : S4) (y : Int) (t : S4) : sv p (ad x s y t) = x * sv p s + y * sv p t := by
  simp only [sv, ad]; grind
theorem ad_d (x : Int) (s : S4) (y : Int) (t : S4) : (ad x s y t).d = x * s.d + y * t.d := rfl
theorem S4_eq {p q : S4} (ha : p.a = q.a) (hb : p.b = q.b) (hc : p.c = q.c) (hd : p.d = q.d) : p = q := by
  cases p; cases q; simp_all

/-- a factor that is big enough for all -/
theorem big_of {α : Type} (f g : α → Int) : ∀ L : List α, (∀ p ∈ L, 0 < f p) → ∃ N : Int, 0 < N ∧ ∀ p ∈ L, 0 < N * f p + g p
  | [], _ => ⟨1, by omega, fun p h => by cases h⟩
  | q :: L, h => by
    obtain ⟨N, h0, h1⟩ := big_of f g L (fun p hp => h p (List.mem_cons_of_mem _ hp))
    have hq := h q List.mem_cons_self
    refine ⟨N + (g q).natAbs, by omega, fun p hp => ?_⟩
    have key : ∀ p ∈ q :: L, 0 ≤ ((g q).natAbs : Int) * f p := fun p hp => Int.mul_nonneg (by omega) (Int.le_of_lt (h p hp))
    have kp := key p hp
    rw [Int.add_mul]
    rcases List.mem_cons.1 hp with rfl | hp
    · have h2 : N * 1 ≤ N * f p := Int.mul_le_mul_of_nonneg_left hq (by omega)
      have h3 : ((g p).natAbs : Int) * 1 ≤ ((g p).natAbs : Int) * f p := Int.mul_le_mul_of_nonneg_left hq (by omega)
      omega
    · have := h1 p hp; omega
/-- the first that is met on a way -/
theorem first_of {α : Type} (f g : α → Int) : ∀ L : List α, (∀ p ∈ L, 0 ≤ f p) → (∃ p ∈ L, g p < 0) → ∃ n ∈ L, g n < 0 ∧ ∀ p ∈ L, 0 ≤ (-g n) * f p + f n * g p
  | [], _, h => by obtain ⟨p, hp, _⟩ := h; cases hp
  | q :: L, h, he => by
    have hf := fun p hp => h p (List.mem_cons_of_mem q hp)
    have nn : ∀ n ∈ q :: L, g n < 0 → ∀ p ∈ q :: L, 0 ≤ g p → 0 ≤ (-g n) * f p + f n * g p := fun n hn hg p hp h0 => by
      have := Int.mul_nonneg (show 0 ≤ -g n by omega) (h p hp)
      have := Int.mul_nonneg (h n hn) h0
      omega
    by_cases hL : ∃ p ∈ L, g p < 0
    · obtain ⟨n, hn, h0, h1⟩ := first_of f g L hf hL
      by_cases hq : 0 ≤ (-g n) * f q + f n * g q
      · exact ⟨n, List.mem_cons_of_mem _ hn, h0, fun p hp => by
          rcases List.mem_cons.1 hp with rfl | hp
          · exact hq
          · exact h1 p hp⟩
      · have gq : g q < 0 := by
          refine Int.not_le.1 fun hc => hq (nn n (List.mem_cons_of_mem _ hn) h0 q List.mem_cons_self hc)
        refine ⟨q, List.mem_cons_self, gq, fun p hp => ?_⟩
        rcases List.mem_cons.1 hp with rfl | hp
        · have : (-g p) * f p + f p * g p = 0 := by grind
          omega
        · by_cases gp : 0 ≤ g p
          · exact nn q List.mem_cons_self gq p (List.mem_cons_of_mem _ hp) gp
          · -- f q / -g q < f n / -g n <= f p / -g p
            have a := h1 p hp
            have b : 0 < -g n := by omega
            have c : 0 < -g q := by omega
            have d : 0 < -g p := by omega
            have e1 := Int.mul_le_mul_of_nonneg_left (show 0 ≤ (-g n) * f p + f n * g p from a) (Int.le_of_lt c)
            have e2 : 0 ≤ -g p * -((-g n) * f q + f n * g q) := Int.mul_nonneg (by omega) (by omega)
            have e3 : -g n * ((-g q) * f p + f q * g p) = -g q * ((-g n) * f p + f n * g p) + -g p * -((-g n) * f q + f n * g q) := by grind
            refine Int.not_lt.1 fun hc => ?_
            have : 0 < -g n * -((-g q) * f p + f q * g p) := Int.mul_pos b (by omega)
            have e4 : -g n * -((-g q) * f p + f q * g p) = -(-g n * ((-g q) * f p + f q * g p)) := by grind
            omega
    · have gq : g q < 0 := by
        obtain ⟨p, hp, hg⟩ := he
        rcases List.mem_cons.1 hp with rfl | hp
        · exact hg
        · exact absurd ⟨p, hp, hg⟩ hL
      refine ⟨q, List.mem_cons_self, gq, fun p hp => ?_⟩
      rcases List.mem_cons.1 hp with rfl | hp
      · have : (-g p) * f p + f p * g p = 0 := by grind
        omega
      · refine nn q List.mem_cons_self gq p (List.mem_cons_of_mem _ hp) (Int.not_lt.1 fun hc => hL ⟨p, hp, hc⟩)

/-! ### Gordan's choice -/
/-- the sums with factors above 0 -/
inductive Pos (L : List (Nat → Int)) : (Nat → Int) → Prop
  | one {a : Nat → Int} : a ∈ L → Pos L a
  | two {a b : Nat → Int} {x y : Int} : Pos L a → Pos L b → 0 < x → 0 < y → Pos L (fun i => x * a i + y * b i)
def dn (n : Nat) (a s : Nat → Int) : Int := match n with | 0 => 0 | n + 1 => dn n a s + a n * s n
theorem dn_scale (n : Nat) (a s : Nat → Int) (x : Int) : dn n a (fun i => x * s i) = x * dn n a s := by
  induction n with
  | zero => simp [dn]
  | succ n ih => simp only [dn, ih]; grind
theorem dn_lin (n : Nat) (a b s : Nat → Int) (x y : Int) : dn n (fun i => x * a i + y * b i) s = x * dn n a s + y * dn n b s := by
  induction n with
  | zero => simp [dn]
  | succ n ih => simp only [dn, ih]; grind
theorem dn_congr {n : Nat} {a s t : Nat → Int} (h : ∀ i, i < n → s i = t i) : dn n a s = dn n a t := by
  induction n with
  | zero => rfl
  | succ n ih => simp only [dn]; rw [ih (fun i hi => h i (by omega)), h n (by omega)]
theorem Pos.trans {L M : List (Nat → Int)} {a : Nat → Int} (h : Pos M a) (hM : ∀ b ∈ M, Pos L b) : Pos L a := by
  induction h with
  | one h => exact hM _ h
  | two _ _ hx hy ih1 ih2 => exact .two ih1 ih2 hx hy
theorem Pos.zero {L : List (Nat → Int)} {a : Nat → Int} (h : Pos L a) {n : Nat} (hL : ∀ b ∈ L, b n = 0) : a n = 0 := by
  induction h with
  | one h => exact hL _ h
  | two _ _ _ _ ih1 ih2 => simp only [ih1, ih2]; omega
/-- the greatest of fractions -/
theorem sup_of {α : Type} (f g : α → Int) : ∀ L : List α, L ≠ [] → (∀ p ∈ L, 0 < g p) → ∃ n ∈ L, ∀ p ∈ L, f p * g n ≤ f n * g p
  | [], h, _ => absurd rfl h
  | [q], _, h => ⟨q, List.mem_cons_self, fun p hp => by rw [List.mem_singleton] at hp; subst hp; omega⟩
  | q :: r :: L, _, h => by
    obtain ⟨n, hn, h1⟩ := sup_of f g (r :: L) (by simp) (fun p hp => h p (List.mem_cons_of_mem _ hp))
    have gq := h q List.mem_cons_self
    have gn := h n (List.mem_cons_of_mem _ hn)
    by_cases c : f q * g n ≤ f n * g q
    · exact ⟨n, List.mem_cons_of_mem _ hn, fun p hp => by
        rcases List.mem_cons.1 hp with rfl | hp
        · exact c
        · exact h1 p hp⟩
    · refine ⟨q, List.mem_cons_self, fun p hp => ?_⟩
      rcases List.mem_cons.1 hp with rfl | hp
      · omega
      · have a := h1 p hp
        have gp := h p (List.mem_cons_of_mem _ hp)
        have b : f p * g n * g q ≤ f n * g p * g q := Int.mul_le_mul_of_nonneg_right a (by omega)
        have d : f n * g q * g p ≤ f q * g n * g p := Int.mul_le_mul_of_nonneg_right (by omega) (by omega)
        have e : (f p * g q) * g n ≤ (f q * g p) * g n := by
          have e1 : (f p * g q) * g n = f p * g n * g q := by grind
          have e2 : (f q * g p) * g n = f q * g n * g p := by grind
          have e3 : f n * g p * g q = f n * g q * g p := by grind
          omega
        exact Int.le_of_mul_le_mul_right e gn
theorem gordan : ∀ (n : Nat) (L : List (Nat → Int)), (∃ s : Nat → Int, ∀ a ∈ L, 0 < dn n a s) ∨ (∃ z, Pos L z ∧ ∀ i, i < n → z i = 0)
  | 0, [] => .inl ⟨fun _ => 0, fun a h => by cases h⟩
  | 0, a :: L => .inr ⟨a, .one List.mem_cons_self, fun i hi => by omega⟩
  | n + 1, L => by
    -- those with last place 0, above, below
    have hP : ∀ a, a ∈ L.filter (fun a => decide (0 < a n)) ↔ a ∈ L ∧ 0 < a n := fun a => by rw [List.mem_filter, decide_eq_true_eq]
    have hN : ∀ a, a ∈ L.filter (fun a => decide (a n < 0)) ↔ a ∈ L ∧ a n < 0 := fun a => by rw [List.mem_filter, decide_eq_true_eq]
    have hZ : ∀ a, a ∈ L.filter (fun a => decide (a n = 0)) ↔ a ∈ L ∧ a n = 0 := fun a => by rw [List.mem_filter, decide_eq_true_eq]
    let M : List (Nat → Int) := L.filter (fun a => decide (a n = 0)) ++ (L.filter (fun a => decide (0 < a n))).flatMap fun a => (L.filter (fun a => decide (a n < 0))).map fun b => fun i => (-b n) * a i + a n * b i
    have hM : ∀ c, c ∈ M ↔ (c ∈ L ∧ c n = 0) ∨ ∃ a, (a ∈ L ∧ 0 < a n) ∧ ∃ b, (b ∈ L ∧ b n < 0) ∧ c = fun i => (-b n) * a i + a n * b i := fun c => by
      show c ∈ L.filter (fun a => decide (a n = 0)) ++ _ ↔ _
      rw [List.mem_append, hZ, List.mem_flatMap]
      constructor
      · rintro (h | ⟨a, ha, h⟩)
        · exact .inl h
        · obtain ⟨b, hb, h⟩ := List.mem_map.1 h
          exact .inr ⟨a, (hP a).1 ha, b, (hN b).1 hb, h.symm⟩
      · rintro (h | ⟨a, ha, b, hb, h⟩)
        · exact .inl h
        · exact .inr ⟨a, (hP a).2 ha, List.mem_map.2 ⟨b, (hN b).2 hb, h.symm⟩⟩
    rcases gordan n M with ⟨s, hs⟩ | ⟨z, hz, hz0⟩
    · refine .inl ?_
      -- a last place for s: between the bounds
      have hz : ∀ c, c ∈ L → c n = 0 → 0 < dn n c s := fun c hc h0 => hs c ((hM c).2 (.inl ⟨hc, h0⟩))
      have hc : ∀ a, a ∈ L → 0 < a n → ∀ b, b ∈ L → b n < 0 → 0 < (-b n) * dn n a s + a n * dn n b s := fun a ha pa b hb nb => by
        have := hs _ ((hM _).2 (.inr ⟨a, ⟨ha, pa⟩, b, ⟨hb, nb⟩, rfl⟩))
        rw [dn_lin] at this; exact this
      have mk : ∀ (x t : Int), 0 < x → (∀ c, c ∈ L → c n ≠ 0 → 0 < x * dn n c s + c n * t) → ∃ s : Nat → Int, ∀ a ∈ L, 0 < dn (n + 1) a s := fun x t hx h => by
        refine ⟨fun i => if i < n then x * s i else t, fun a ha => ?_⟩
        have e : dn n a (fun i => if i < n then x * s i else t) = x * dn n a s := by rw [dn_congr (t := fun i => x * s i) (fun i hi => if_pos hi), dn_scale]
        show 0 < dn n a _ + a n * (if n < n then x * s n else t)
        rw [e, if_neg (by omega)]
        by_cases c : a n = 0
        · have := Int.mul_pos hx (hz a ha c)
          rw [c]; omega
        · exact h a ha c
      by_cases eP : L.filter (fun a => decide (0 < a n)) = []
      · -- none above: far below
        obtain ⟨N, hN0, hN1⟩ := big_of (fun a : Nat → Int => -a n) (fun a => dn n a s) (L.filter (fun a => decide (a n < 0))) (fun p hp => by have := ((hN p).1 hp).2; omega)
        refine mk 1 (-N) (by omega) fun c hc h0 => ?_
        have : ¬ 0 < c n := fun h => by
          have : c ∈ L.filter (fun a => decide (0 < a n)) := (hP c).2 ⟨hc, h⟩
          rw [eP] at this; cases this
        have := hN1 c ((hN c).2 ⟨hc, by omega⟩)
        have e : c n * -N = N * -c n := by grind
        omega
      · obtain ⟨a, ha, hmax⟩ := sup_of (fun a : Nat → Int => -dn n a s) (fun a => a n) _ eP (fun p hp => ((hP p).1 hp).2)
        obtain ⟨ha1, ha2⟩ := (hP a).1 ha
        -- the place -dn a / a n, and a little above
        by_cases eN : L.filter (fun a => decide (a n < 0)) = []
        · obtain ⟨N, hN0, hN1⟩ := big_of (fun a : Nat → Int => a n) (fun a => dn n a s) (L.filter (fun a => decide (0 < a n))) (fun p hp => ((hP p).1 hp).2)
          refine mk 1 N (by omega) fun c hc h0 => ?_
          have : ¬ c n < 0 := fun h => by
            have : c ∈ L.filter (fun a => decide (a n < 0)) := (hN c).2 ⟨hc, h⟩
            rw [eN] at this; cases this
          have := hN1 c ((hP c).2 ⟨hc, by omega⟩)
          have e : c n * N = N * c n := by grind
          omega
        · obtain ⟨N, hN0, hN1⟩ := big_of (fun b : Nat → Int => (-b n) * dn n a s + a n * dn n b s) (fun b => b n) (L.filter (fun a => decide (a n < 0))) (fun b hb => hc a ha1 ha2 b ((hN b).1 hb).1 ((hN b).1 hb).2)
          refine mk (N * a n) (N * -dn n a s + 1) (Int.mul_pos hN0 ha2) fun c hcL h0 => ?_
          by_cases pc : 0 < c n
          · have h1 := hmax c ((hP c).2 ⟨hcL, pc⟩)
            have h2 := Int.mul_nonneg (Int.le_of_lt hN0) (show 0 ≤ -dn n a s * c n - -dn n c s * a n by omega)
            have e : N * a n * dn n c s + c n * (N * -dn n a s + 1) = N * (-dn n a s * c n - -dn n c s * a n) + c n := by grind
            omega
          · have h1 := hN1 c ((hN c).2 ⟨hcL, by omega⟩)
            have e : N * a n * dn n c s + c n * (N * -dn n a s + 1) = N * ((-c n) * dn n a s + a n * dn n c s) + c n := by grind
            rw [e]; exact h1
    · refine .inr ⟨z, hz.trans (fun b hb => ?_), fun i hi => ?_⟩
      · rcases (hM b).1 hb with ⟨h, _⟩ | ⟨a, ⟨ha, pa⟩, c, ⟨hc, nc⟩, rfl⟩
        · exact .one h
        · exact .two (.one ha) (.one hc) (by omega) pa
      · by_cases c : i < n
        · exact hz0 i c
        · have : i = n := by omega
          subst this
          refine hz.zero fun b hb => ?_
          rcases (hM b).1 hb with ⟨_, h⟩ | ⟨a, _, c, _, rfl⟩
          · exact h
          · show (-c i) * a i + a i * c i = 0
            grind
end Go.Proofs.YtalkkenkeilmpaaGreat.Q
