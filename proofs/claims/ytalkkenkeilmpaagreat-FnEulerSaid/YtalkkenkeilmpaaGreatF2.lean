/- Cells: what the planes that are needed tell of the others. -/
import Derived.Test.YtalkkenkeilmpaaGreatF1
namespace Go.Proofs.YtalkkenkeilmpaaGreat.Q
open Go Go.RowKit Go.Proofs Go.Proofs.YtalkkenkeilmpaaGreat.Ev Go.Proofs.YtalkkenkeilmpaaGreat.G
set_option linter.unusedSimpArgs false
set_option linter.unusedVariables false

/-- a plane is needed: some point lies beyond it alone. -/
def Nd (L : List S4) (p : S4) : Prop := ∃ y : S4, 0 < y.d ∧ sv p y < 0 ∧ ∀ q ∈ L, q ≠ p → 0 < sv q y
/-- a point in the midst -/
def Mid (L : List S4) (v : S4) : Prop := 0 < v.d ∧ ∀ p ∈ L, 0 < sv p v

theorem gcd_same {a b c d a' b' c' d' : Int} {x y : Int} (hx : 0 < x) (hy : 0 < y) (ha : x * a = y * a') (hb : x * b = y * b') (hc : x * c = y * c') (hd : x * d = y * d')
    (g : Nat.gcd (Nat.gcd a.natAbs b.natAbs) (Nat.gcd c.natAbs d.natAbs) = 1) (g' : Nat.gcd (Nat.gcd a'.natAbs b'.natAbs) (Nat.gcd c'.natAbs d'.natAbs) = 1) : x = y := by
  have f : ∀ {u v : Int}, x * u = y * v → x.natAbs * u.natAbs = y.natAbs * v.natAbs := fun h => by rw [← Int.natAbs_mul, ← Int.natAbs_mul, h]
  have e1 : x.natAbs * Nat.gcd (Nat.gcd a.natAbs b.natAbs) (Nat.gcd c.natAbs d.natAbs) = y.natAbs * Nat.gcd (Nat.gcd a'.natAbs b'.natAbs) (Nat.gcd c'.natAbs d'.natAbs) := by
    rw [← Nat.gcd_mul_left, ← Nat.gcd_mul_left, ← Nat.gcd_mul_left, ← Nat.gcd_mul_left, ← Nat.gcd_mul_left, ← Nat.gcd_mul_left, f ha, f hb, f hc, f hd]
  rw [g, g'] at e1
  omega
theorem same_of {p q : S4} (hp : okp p = true) (hq : okp q = true) {x y : Int} (hx : 0 < x) (hy : 0 < y) (ha : x * p.a = y * q.a) (hb : x * p.b = y * q.b) (hc : x * p.c = y * q.c) (hd : x * p.d = y * q.d) : p = q := by
  have e := gcd_same hx hy ha hb hc hd (okp_iff.1 hp).2.2.2.2.2 (okp_iff.1 hq).2.2.2.2.2
  subst e
  have c : ∀ {u v : Int}, x * u = x * v → u = v := fun h => Int.eq_of_mul_eq_mul_left (by omega) h
  exact S4_eq (c ha) (c hb) (c hc) (c hd)
/-- a plane that vanishes where another one does, on the same side of some point: the same. -/
theorem same_ker {p q v : S4} (hp : okp p = true) (hq : okp q = true) (pv : 0 < sv p v) (qv : 0 < sv q v) (h : ∀ u, sv p u = 0 → sv q u = 0) : p = q := by
  have k : ∀ w : S4, sv p v * sv q w = sv q v * sv p w := fun w => by
    have h1 : sv p (ad (sv p v) w (-sv p w) v) = 0 := by rw [sv_ad]; grind
    have h2 := h _ h1
    rw [sv_ad] at h2
    grind
  have ka := k ⟨1, 0, 0, 0⟩; have kb := k ⟨0, 1, 0, 0⟩; have kc := k ⟨0, 0, 1, 0⟩; have kd := k ⟨0, 0, 0, 1⟩
  have ea : ∀ r : S4, sv r ⟨1, 0, 0, 0⟩ = r.a := fun r => by simp [sv]
  have eb : ∀ r : S4, sv r ⟨0, 1, 0, 0⟩ = r.b := fun r => by simp [sv]
  have ec : ∀ r : S4, sv r ⟨0, 0, 1, 0⟩ = r.c := fun r => by simp [sv]
  have ed : ∀ r : S4, sv r ⟨0, 0, 0, 1⟩ = r.d := fun r => by simp [sv]
  rw [ea, ea] at ka; rw [eb, eb] at kb; rw [ec, ec] at kc; rw [ed, ed] at kd
  exact same_of hp hq qv pv ka.symm kb.symm kc.symm kd.symm
/-- big factors for a list and for the last place -/
theorem big_mid {S : List S4} {s t : S4} (h : Mid S s) : ∃ N : Int, 0 < N ∧ Mid S (ad N s 1 t) := by
  obtain ⟨N, h0, h1⟩ := big_of (fun p => sv p s) (fun p => sv p t) (⟨0, 0, 0, 1⟩ :: S) (fun p hp => by
    rcases List.mem_cons.1 hp with rfl | hp
    · have := h.1; simp [sv]; omega
    · exact h.2 p hp)
  refine ⟨N, h0, ?_, fun p hp => ?_⟩
  · have := h1 _ List.mem_cons_self
    simp [sv] at this
    simp only [ad]; omega
  · rw [sv_ad]; have := h1 p (List.mem_cons_of_mem _ hp); omega
theorem Mid.add {S : List S4} {s t : S4} (h : Mid S s) (h1 : 0 ≤ t.d) (h2 : ∀ p ∈ S, 0 ≤ sv p t) {N M : Int} (hN : 0 ≤ N) (hM : 0 < M) : Mid S (ad N t M s) := by
  refine ⟨?_, fun p hp => ?_⟩
  · have a := Int.mul_nonneg hN h1; have b := Int.mul_pos hM h.1; simp only [ad]; omega
  · rw [sv_ad]; have a := Int.mul_nonneg hN (h2 p hp); have b := Int.mul_pos hM (h.2 p hp); omega
/-- of planes that tell all others, one that isn't needed can be left out: shown by its opposite. -/
theorem nd_of {L S : List S4} {v p x : S4} (hL : ∀ q ∈ L, okp q = true) (hv : Mid L v) (hS : ∀ q ∈ S, q ∈ L) (hp : p ∈ L)
    (tell : ∀ x : S4, 0 ≤ x.d → 0 ≤ sv p x → (∀ q ∈ S, 0 ≤ sv q x) → ∀ q ∈ L, 0 ≤ sv q x) (x0 : 0 ≤ x.d) (x1 : ∀ q ∈ S, 0 ≤ sv q x) (x2 : sv p x < 0) : Nd L p := by
  have hvS : Mid S v := ⟨hv.1, fun q hq => hv.2 q (hS q hq)⟩
  have pv := hv.2 p hp
  -- a point beyond p, in the midst of S
  obtain ⟨N, N0, N1⟩ := big_of (fun _ : Nat => -sv p x) (fun _ => -sv p v) [0] (fun _ _ => by omega)
  have N1 := N1 0 List.mem_cons_self
  have my : Mid S (ad N x 1 v) := hvS.add x0 x1 (Int.le_of_lt N0) (by omega)
  have py : sv p (ad N x 1 v) < 0 := by
    rw [sv_ad]
    have : N * -sv p x = -(N * sv p x) := Int.mul_neg ..
    omega
  generalize ad N x 1 v = y at my py
  -- a point on p
  have mz : Mid S (ad (sv p v) y (-sv p y) v) := hvS.add (Int.le_of_lt my.1) (fun q hq => Int.le_of_lt (my.2 q hq)) (Int.le_of_lt pv) (by omega)
  have pz : sv p (ad (sv p v) y (-sv p y) v) = 0 := by rw [sv_ad]; grind
  generalize ad (sv p v) y (-sv p y) v = z at mz pz
  have nn : ∀ u, sv p u = 0 → ∀ q ∈ L, sv q z = 0 → 0 ≤ sv q u := fun u hu q hq hz => by
    obtain ⟨N, N0, N2⟩ := big_mid (t := u) mz
    have := tell (ad N z 1 u) (Int.le_of_lt N2.1) (by rw [sv_ad, pz, hu]; omega) (fun q hq => Int.le_of_lt (N2.2 q hq)) q hq
    rw [sv_ad, hz] at this; omega
  have pos : ∀ q ∈ L, q ≠ p → 0 < sv q z := fun q hq ne => by
    have h0 := tell z (Int.le_of_lt mz.1) (by omega) (fun q hq => Int.le_of_lt (mz.2 q hq)) q hq
    by_cases e : sv q z = 0
    · refine absurd (same_ker (hL p hp) (hL q hq) pv (hv.2 q hq) fun u hu => ?_).symm ne
      have a := nn u hu q hq e
      have b := nn (ad (-1) u 0 u) (by rw [sv_ad, hu]; omega) q hq e
      rw [sv_ad] at b; omega
    · omega
  -- a little beyond
  have mr : Mid (L.filter fun q => decide (q ≠ p)) z := ⟨mz.1, fun q hq => by
    rw [List.mem_filter, decide_eq_true_eq] at hq; exact pos q hq.1 hq.2⟩
  obtain ⟨M, M0, M1⟩ := big_mid (t := y) mr
  refine ⟨ad M z 1 y, M1.1, by rw [sv_ad, pz]; omega, fun q hq ne => M1.2 q (by rw [List.mem_filter, decide_eq_true_eq]; exact ⟨hq, ne⟩)⟩
/-- the planes that are needed tell all of a cell. -/
theorem nd_all {L : List S4} {v : S4} (hL : ∀ q ∈ L, okp q = true) (hv : Mid L v) : ∀ (n : Nat) (S : List S4), S.length ≤ n → (∀ q ∈ S, q ∈ L) → (∀ x : S4, 0 ≤ x.d → (∀ q ∈ S, 0 ≤ sv q x) → ∀ q ∈ L, 0 ≤ sv q x) →
    ∀ x : S4, 0 ≤ x.d → (∀ q ∈ L, Nd L q → 0 ≤ sv q x) → ∀ q ∈ L, 0 ≤ sv q x := by
  intro n
  induction n with
  | zero =>
    intro S hn _ h x x0 _
    have : S = [] := List.eq_nil_of_length_eq_zero (by omega)
    subst this
    exact h x x0 fun q hq => by cases hq
  | succ n ih =>
    intro S hn hS h x x0 x1
    by_cases c : ∃ p ∈ S, ¬ Nd L p
    · obtain ⟨p, hp, hnd⟩ := c
      refine ih (S.filter fun q => decide (q ≠ p)) ?_ (fun q hq => hS q (List.mem_filter.1 hq).1) (fun y y0 y1 => ?_) x x0 x1
      · have : (S.filter fun q => decide (q ≠ p)).length < S.length := List.length_filter_lt_length_iff_exists.2 ⟨p, hp, by simp⟩
        omega
      · have back : ∀ w : S4, 0 ≤ sv p w → (∀ q ∈ S.filter (fun q => decide (q ≠ p)), 0 ≤ sv q w) → ∀ q ∈ S, 0 ≤ sv q w := fun w w0 w1 q hq => by
          by_cases e : q = p
          · rw [e]; exact w0
          · exact w1 q (by rw [List.mem_filter, decide_eq_true_eq]; exact ⟨hq, e⟩)
        by_cases e : 0 ≤ sv p y
        · exact h y y0 (back y e y1)
        · exact absurd (nd_of hL hv (fun q hq => hS q (List.mem_filter.1 hq).1) (hS p hp) (fun w w0 w1 w2 => h w w0 (back w w1 w2)) y0 y1 (by omega)) hnd
    · exact h x x0 fun q hq => x1 q (hS q hq) (Classical.byContradiction fun hc => c ⟨q, hq, hc⟩)
theorem nd_tell {L : List S4} {v : S4} (hL : ∀ q ∈ L, okp q = true) (hv : Mid L v) {x : S4} (x0 : 0 ≤ x.d) (x1 : ∀ q ∈ L, Nd L q → 0 ≤ sv q x) : ∀ q ∈ L, 0 ≤ sv q x :=
  nd_all hL hv L.length L (Nat.le_refl _) (fun q hq => hq) (fun x _ h => h) x x0 x1
end Go.Proofs.YtalkkenkeilmpaaGreat.Q
