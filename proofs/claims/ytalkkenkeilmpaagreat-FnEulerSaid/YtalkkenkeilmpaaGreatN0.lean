/- Long numbers: digits below 10000, the lowest first. Plain facts. -/
import Derived.Test.YtalkkenkeilmpaaGreatP1
namespace Go.Proofs.YtalkkenkeilmpaaGreat.Q
open Go Go.RowKit Go.Proofs Go.Proofs.YtalkkenkeilmpaaGreat.Ev Go.Proofs.YtalkkenkeilmpaaGreat.G
set_option linter.unusedSimpArgs false
set_option linter.unusedVariables false

/-- a fact put aside, so that 'omega' doesn't look at it -/
structure Aside0 (p : Prop) : Prop where
  out : p
def val : List Int → Int
  | [] => 0
  | x :: l => x + 10000 * val l
def DG (l : List Int) : Prop := ∀ x ∈ l, 0 ≤ x ∧ x ≤ 9999
theorem DG.tail {x : Int} {l : List Int} (h : DG (x :: l)) : DG l := fun y hy => h y (List.mem_cons_of_mem _ hy)
theorem DG.head {x : Int} {l : List Int} (h : DG (x :: l)) : 0 ≤ x ∧ x ≤ 9999 := h x List.mem_cons_self
theorem DG.nil : DG [] := fun x h => by cases h
theorem DG.cons {x : Int} {l : List Int} (hx : 0 ≤ x ∧ x ≤ 9999) (h : DG l) : DG (x :: l) := fun y hy => by
  rcases List.mem_cons.mp hy with rfl | hy
  · exact hx
  · exact h y hy
theorem DG.app {l m : List Int} (h : DG l) (g : DG m) : DG (l ++ m) := fun y hy => (List.mem_append.mp hy).elim (h y) (g y)
theorem DG.take {l : List Int} (h : DG l) (n : Nat) : DG (l.take n) := fun y hy => h y (List.mem_of_mem_take hy)
theorem DG.drop {l : List Int} (h : DG l) (n : Nat) : DG (l.drop n) := fun y hy => h y (List.mem_of_mem_drop hy)
theorem val_nn : ∀ {l : List Int}, DG l → 0 ≤ val l
  | [], _ => Int.le_refl _
  | x :: l, h => by have h1 := val_nn h.tail; have h2 := h.head; simp only [val]; omega
def P (n : Nat) : Int := ((10000 ^ n : Nat) : Int)
theorem P_zero : P 0 = 1 := rfl
theorem P_succ (n : Nat) : P (n + 1) = 10000 * P n := by simp only [P, Nat.pow_succ]; omega
theorem P_pos (n : Nat) : 0 < P n := by
  have : 0 < 10000 ^ n := Nat.pos_of_ne_zero (by simp)
  simp only [P]; omega
theorem val_lt : ∀ {l : List Int}, DG l → val l < P l.length
  | [], _ => by simp [val, P]
  | x :: l, h => by
    have h1 := val_lt h.tail; have h2 := h.head
    rw [List.length_cons, P_succ]; simp only [val]; omega
theorem val_app : ∀ (l m : List Int), val (l ++ m) = val l + P l.length * val m
  | [], m => by simp [val, P]
  | x :: l, m => by
    rw [List.cons_append, List.length_cons, P_succ]
    simp only [val, val_app l m, Int.mul_add, Int.mul_assoc]; omega
theorem val_zero : ∀ {l : List Int}, DG l → val l = 0 → ∀ x ∈ l, x = 0
  | [], _, _ => fun x h => by cases h
  | y :: l, h, e => fun x hx => by
    have h1 := val_nn h.tail; have h2 := h.head
    simp only [val] at e
    rcases List.mem_cons.mp hx with rfl | hx
    · omega
    · exact val_zero h.tail (by omega) x hx
/-- the digits of a number, the lowest first -/
def dg (n : Nat) : List Int := if h : n = 0 then [] else ((n % 10000 : Nat) : Int) :: dg (n / 10000)
termination_by n
decreasing_by omega
theorem dg_zero : dg 0 = [] := by unfold dg; simp
theorem dg_pos {n : Nat} (h : 0 < n) : dg n = ((n % 10000 : Nat) : Int) :: dg (n / 10000) := by
  conv => lhs; unfold dg
  rw [dif_neg (by omega)]
theorem dg_DG (n : Nat) : DG (dg n) := by
  induction n using Nat.strongRecOn with
  | _ n ih =>
    by_cases h : n = 0
    · subst h; rw [dg_zero]; exact DG.nil
    · rw [dg_pos (by omega)]
      exact DG.cons (by omega) (ih _ (by omega))
theorem dg_val (n : Nat) : val (dg n) = n := by
  induction n using Nat.strongRecOn with
  | _ n ih =>
    by_cases h : n = 0
    · subst h; rw [dg_zero]; rfl
    · rw [dg_pos (by omega)]
      simp only [val, ih _ (show n / 10000 < n by omega)]; omega
theorem dg_len {n : Nat} : ∀ {k : Nat}, n < 10000 ^ k → (dg n).length ≤ k := by
  induction n using Nat.strongRecOn with
  | _ n ih =>
    intro k hk
    by_cases h : n = 0
    · subst h; rw [dg_zero]; exact Nat.zero_le _
    · rw [dg_pos (by omega), List.length_cons]
      cases k with
      | zero => simp at hk; omega
      | succ k =>
        have := ih (n / 10000) (by omega) (k := k) (by rw [Nat.pow_succ] at hk; omega)
        omega
theorem dg_ne {n : Nat} : dg n = [] ↔ n = 0 := by
  constructor
  · intro h
    have := dg_val n
    rw [h] at this; simp only [val] at this; omega
  · rintro rfl; exact dg_zero
/-- digits, the highest of which is not 0, are a number's -/
theorem dg_of : ∀ {l : List Int}, DG l → (∀ h : l ≠ [], l.getLast h ≠ 0) → dg (val l).toNat = l
  | [], _, _ => by simp [val, dg_zero]
  | x :: l, h, hl => by
    have h1 := val_nn h.tail; have h2 := h.head
    by_cases e : l = []
    · subst e
      have hx := hl (by simp)
      simp only [List.getLast_singleton] at hx
      simp only [val]
      rw [dg_pos (by omega)]
      have : (x + 10000 * 0).toNat / 10000 = 0 := by omega
      rw [this, dg_zero]
      congr 1; omega
    · have ih := dg_of h.tail (fun h' => by
        have := hl (by simp)
        rwa [List.getLast_cons h'] at this)
      have hp : 0 < val l := by
        by_cases z : val l = 0
        · rw [z] at ih; simp [dg_zero] at ih; exact absurd ih e
        · omega
      simp only [val]
      rw [dg_pos (by omega), show (x + 10000 * val l).toNat / 10000 = (val l).toNat by omega, ih]
      congr 1; omega
theorem dg_last {n : Nat} (h : dg n ≠ []) : (dg n).getLast h ≠ 0 := by
  induction n using Nat.strongRecOn with
  | _ n ih =>
    have hn : n ≠ 0 := fun e => h (dg_ne.mpr e)
    by_cases e : n / 10000 = 0
    · have : dg n = [((n % 10000 : Nat) : Int)] := by rw [dg_pos (by omega), e, dg_zero]
      simp only [this, List.getLast_singleton]; omega
    · have hd : dg (n / 10000) ≠ [] := fun h => e (dg_ne.mp h)
      have := ih _ (by omega) hd
      simp only [dg_pos (show 0 < n by omega)]
      rw [List.getLast_cons hd]; exact this
theorem val_take_succ {l : List Int} {i : Nat} (h : i < l.length) : val (l.take (i + 1)) = val (l.take i) + P i * l[i] := by
  rw [List.take_succ_eq_append_getElem h, val_app, List.length_take, Nat.min_eq_left (by omega)]
  simp only [val, Int.mul_zero, Int.add_zero]
theorem val_drop {l : List Int} {i : Nat} (h : i < l.length) : val (l.drop i) = l[i] + 10000 * val (l.drop (i + 1)) := by
  rw [List.drop_eq_getElem_cons h]; rfl
theorem val_set : ∀ {l : List Int} {i : Nat} (h : i < l.length) (y : Int), val (l.set i y) = val l + P i * (y - l[i])
  | x :: l, 0, _, y => by simp only [List.set_cons_zero, val, P_zero, List.getElem_cons_zero]; omega
  | x :: l, i + 1, h, y => by
    have := val_set (l := l) (i := i) (by simpa using h) y
    simp only [List.set_cons_succ, val, this, P_succ, List.getElem_cons_succ, Int.mul_add, Int.mul_assoc]; omega
theorem tdiv_e {a b : Int} (h : 0 ≤ a) : Int.tdiv a b = a / b := Int.tdiv_eq_ediv_of_nonneg h
theorem tmod_e {a b : Int} (h : 0 ≤ a) : Int.tmod a b = a % b := Int.tmod_eq_emod_of_nonneg h
theorem P_one_le (n : Nat) : 1 ≤ P n := P_pos n
theorem horner_bd {a p v B : Int} (ha : 0 ≤ a) (hp : 1 ≤ p) (hv : 0 ≤ v) (h : a * p + v < B) : a < B := by
  have := Int.mul_le_mul_of_nonneg_left hp ha
  rw [Int.mul_one] at this; omega
theorem subkey {A B c p x y : Int} : (A - B + c * p) + p * (x - c - y + 10000) = (A + p * x) - (B + p * y) + 1 * (10000 * p) := by
  simp only [Int.mul_add, Int.mul_sub, Int.one_mul]; rw [Int.mul_comm c p]; omega
theorem subkey0 {A B c p q x y : Int} : (A - B + c * p) + p * (x - c - y) = (A + p * x) - (B + p * y) + 0 * q := by
  simp only [Int.mul_sub, Int.zero_mul]; rw [Int.mul_comm c p]; omega
theorem mulkey {p v vt xi g o0 o1 a b c : Int} (hv : v = vt * g) (hin : (a - o0) + 10000 * (b - o1) + 100000000 * c = xi * g) : ((v + p * (a - o0)) + 10000 * p * (b - o1)) + 10000 * (10000 * p) * (c - 0) = (vt + p * xi) * g := by
  have h : p * ((a - o0) + 10000 * (b - o1) + 100000000 * c) = p * (xi * g) := by rw [hin]
  grind
theorem divkey {d v n R r q m : Int} (hr : r = d + 10000 * R) (h : r = n * q + m) : d + 10000 * (v * n + R) = (q + 10000 * v) * n + m := by grind
/-- one row of the product: the three stores -/
theorem mul_row {xs out : List Int} {i : Nat} {X Y g : Int} (h0 : i < out.length) (h1 : i + 1 < out.length) (h2 : i + 2 < out.length) (ho : DG out) (o2 : out[i + 2] = 0) (hi1 : i < xs.length) (hX : xs[i] * g + out[i] = X) (hY : out[i + 1] + X / 10000 = Y) (hv : val out = val (xs.take i) * g) :
    val (((out.set i (X % 10000)).set (i + 1) (Y % 10000)).set (i + 2) (Y / 10000)) = val (xs.take (i + 1)) * g := by
  have hin : ((X % 10000 - out[i]) + 10000 * (Y % 10000 - out[i + 1]) + 100000000 * (Y / 10000)) = xs[i] * g := by omega
  have v0 := val_take_succ hi1
  have s1 := val_set h0 (X % 10000)
  have s2 := val_set (l := out.set i (X % 10000)) (i := i + 1) (by simpa using h1) (Y % 10000)
  have s3 := val_set (l := (out.set i (X % 10000)).set (i + 1) (Y % 10000)) (i := i + 2) (by simpa using h2) (Y / 10000)
  have g1 : (out.set i (X % 10000))[i + 1]'(by simpa using h1) = out[i + 1] := List.getElem_set_ne (Nat.ne_of_lt (Nat.lt_succ_self i)) _
  have g2 : ((out.set i (X % 10000)).set (i + 1) (Y % 10000))[i + 2]'(by simpa using h2) = 0 := by
    rw [List.getElem_set_ne (Nat.ne_of_lt (Nat.lt_succ_self (i + 1))), List.getElem_set_ne (Nat.ne_of_lt (Nat.lt_of_lt_of_le (Nat.lt_succ_self i) (Nat.le_succ (i + 1))))]; exact o2
  rw [g1] at s2
  rw [g2] at s3
  have pp : P (i + 2) = 10000 * (10000 * P i) := by rw [show i + 2 = (i + 1) + 1 from rfl, P_succ, P_succ]
  rw [s3, s2, s1, v0, pp, P_succ]
  exact mulkey hv hin
theorem mul_DG {out : List Int} {i : Nat} {X Y : Int} (ho : DG out) (bX : 0 ≤ X) (bY : 0 ≤ Y ∧ Y ≤ 99990000) : DG (((out.set i (X % 10000)).set (i + 1) (Y % 10000)).set (i + 2) (Y / 10000)) := fun y hy => by
  rcases List.mem_or_eq_of_mem_set hy with hy | rfl
  · rcases List.mem_or_eq_of_mem_set hy with hy | rfl
    · rcases List.mem_or_eq_of_mem_set hy with hy | rfl
      · exact ho y hy
      · omega
    · omega
  · omega
theorem DG_zero : ∀ n : Nat, DG (List.replicate n 0) := fun n y hy => by
  have := List.eq_of_mem_replicate hy; omega
theorem val_zeros : ∀ n : Nat, val (List.replicate n 0) = 0
  | 0 => rfl
  | n + 1 => by rw [List.replicate_succ]; simp only [val, val_zeros n]; rfl
theorem dg_len16 {n : Nat} (h : n < 10000000000000000) : (dg n).length ≤ 4 := dg_len (k := 4) (by omega)
theorem dg_mono {a b : Nat} (h : a ≤ b) : (dg a).length ≤ (dg b).length := by
  refine dg_len ?_
  have := val_lt (dg_DG b)
  rw [dg_val] at this
  simp only [P] at this
  omega
theorem dg_len12 {n : Nat} (h : n < 1000000000000) : (dg n).length ≤ 3 := dg_len (k := 3) (by omega)
theorem gcd_lt {x y b : Nat} (hx : x < b) (hy : y < b) : Nat.gcd x y < b := by
  by_cases h : x = 0
  · subst h; rw [Nat.gcd_zero_left]; exact hy
  · exact Nat.lt_of_le_of_lt (Nat.gcd_le_left _ (by omega)) hx
def g4 (a b c d : Int) : Nat := Nat.gcd (Nat.gcd (Nat.gcd (Nat.gcd 0 a.natAbs) b.natAbs) c.natAbs) d.natAbs
/-- a number over the divisor, its sign kept -/
def pv (x : Int) (G : Nat) : Int := if x < 0 then -((x.natAbs / G : Nat) : Int) else ((x.natAbs / G : Nat) : Int)
theorem g4_one {a b c d d2 : Int} (h : Nat.gcd (Nat.gcd a.natAbs b.natAbs) (Nat.gcd c.natAbs d.natAbs) = 1) (hd : ∀ G : Nat, G ∣ a.natAbs → G ∣ b.natAbs → G ∣ c.natAbs → G ∣ d2.natAbs → G ∣ d.natAbs) : g4 a b c d2 = 1 := by
  have k1 : g4 a b c d2 ∣ Nat.gcd (Nat.gcd (Nat.gcd 0 a.natAbs) b.natAbs) c.natAbs := Nat.gcd_dvd_left _ _
  have kd : g4 a b c d2 ∣ d2.natAbs := Nat.gcd_dvd_right _ _
  have k2 := Nat.dvd_trans k1 (Nat.gcd_dvd_left _ _)
  have kc := Nat.dvd_trans k1 (Nat.gcd_dvd_right _ _)
  have ka := Nat.dvd_trans (Nat.dvd_trans k2 (Nat.gcd_dvd_left _ _)) (Nat.gcd_dvd_right _ _)
  have kb := Nat.dvd_trans k2 (Nat.gcd_dvd_right _ _)
  have := Nat.dvd_gcd (Nat.dvd_gcd ka kb) (Nat.dvd_gcd kc (hd _ ka kb kc kd))
  rw [h] at this
  exact Nat.dvd_one.mp this
theorem pv_one (x : Int) : pv x 1 = x := by
  unfold pv
  rw [Nat.div_one]
  split <;> omega
end Go.Proofs.YtalkkenkeilmpaaGreat.Q
