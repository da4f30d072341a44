/- Do sides of two, three, four planes clash, by both programs; room. -/
import Derived.Test.YtalkkenkeilmpaaGreatP1
namespace Go.Proofs.YtalkkenkeilmpaaGreat.Q
open Go Go.RowKit Go.Proofs Go.Proofs.YtalkkenkeilmpaaGreat.Ev Go.Proofs.YtalkkenkeilmpaaGreat.G
set_option linter.unusedSimpArgs false
set_option linter.unusedVariables false

def sgn (a : Int) : Int := if 0 < a then 1 else if a < 0 then -1 else 0
def ab (a : Int) : Int := (a.natAbs : Int)
theorem ab_mul (a b : Int) : ab (a * b) = ab a * ab b := by simp only [ab, Int.natAbs_mul, Int.natCast_mul]
theorem sg_pos {A B z S : Int} (hS : 0 < S) (hz : 0 < z) (h : A * z = B * S) : 0 < A ↔ 0 < B := by
  have k2 : ∀ {x y : Int}, 0 < y → x ≤ 0 → x * y ≤ 0 := fun {x y} hy hx => by
    have := Int.mul_nonneg (show 0 ≤ -x by omega) (show 0 ≤ y by omega)
    rw [Int.neg_mul] at this; omega
  constructor
  · intro ha
    have h1 := Int.mul_pos ha hz
    rw [h] at h1
    by_cases hb : 0 < B
    · exact hb
    · have := k2 hS (show B ≤ 0 by omega); omega
  · intro hb
    have h1 := Int.mul_pos hb hS
    rw [← h] at h1
    by_cases ha : 0 < A
    · exact ha
    · have := k2 hz (show A ≤ 0 by omega); omega
def Up3 (x y z d e f : Int) : Prop := ((0 < x ∧ 0 < y ∧ 0 < z) ∨ (x < 0 ∧ y < 0 ∧ z < 0)) ∧ ab x * d + ab y * e + ab z * f ≤ 0
theorem core3 {X Y S x y z d e f : Int} (hx : X * z = x * S) (hy : Y * z = y * S) (h0 : 0 ≤ S) (hz : S = 0 → z = 0) (ha : x ≠ 0 ∨ y ≠ 0 ∨ z ≠ 0) : Up3 X Y S d e f ↔ Up3 x y z d e f := by
  unfold Up3
  by_cases hS : S = 0
  · have := hz hS
    constructor <;> (intro h; omega)
  · have hS : 0 < S := by omega
    have hz0 : z ≠ 0 := by
      intro h; subst h
      have e1 : x * S = 0 := by rw [← hx]; simp
      have e2 : y * S = 0 := by rw [← hy]; simp
      have := (Int.mul_eq_zero.mp e1).resolve_right (by omega)
      have := (Int.mul_eq_zero.mp e2).resolve_right (by omega)
      omega
    have hs : (X * d + Y * e + S * f) * z = (x * d + y * e + z * f) * S := by
      have : (X * d + Y * e + S * f) * z = d * (X * z) + e * (Y * z) + f * (S * z) := by grind
      rw [this, hx, hy]; grind
    have eX : (0 < X ∧ 0 < Y ∧ 0 < S) → ab X * d + ab Y * e + ab S * f = X * d + Y * e + S * f := by
      rintro ⟨h1, h2, h3⟩
      simp only [ab]
      rw [show ((X.natAbs : Int)) = X by omega, show ((Y.natAbs : Int)) = Y by omega, show ((S.natAbs : Int)) = S by omega]
    by_cases hp : 0 < z
    · have a1 := sg_pos hS hp hx
      have a2 := sg_pos hS hp hy
      have a3 := sg_pos hS hp hs
      have ex : (0 < x ∧ 0 < y ∧ 0 < z) → ab x * d + ab y * e + ab z * f = x * d + y * e + z * f := by
        rintro ⟨h1, h2, h3⟩
        simp only [ab]
        rw [show ((x.natAbs : Int)) = x by omega, show ((y.natAbs : Int)) = y by omega, show ((z.natAbs : Int)) = z by omega]
      constructor
      · rintro ⟨h | h, h4⟩
        · have p : 0 < x ∧ 0 < y ∧ 0 < z := ⟨a1.mp h.1, a2.mp h.2.1, hp⟩
          refine ⟨.inl p, ?_⟩
          rw [eX h] at h4
          rw [ex p]
          have : ¬ 0 < x * d + y * e + z * f := fun q => absurd (a3.mpr q) (by omega)
          omega
        · omega
      · rintro ⟨h | h, h4⟩
        · have p : 0 < X ∧ 0 < Y ∧ 0 < S := ⟨a1.mpr h.1, a2.mpr h.2.1, hS⟩
          refine ⟨.inl p, ?_⟩
          rw [ex h] at h4
          rw [eX p]
          have : ¬ 0 < X * d + Y * e + S * f := fun q => absurd (a3.mp q) (by omega)
          omega
        · omega
    · have hn : 0 < -z := by omega
      have neg : ∀ {u v : Int}, u * z = v * S → u * -z = -v * S := fun {u v} h => by rw [Int.mul_neg, Int.neg_mul, h]
      have a1 := sg_pos hS hn (neg hx)
      have a2 := sg_pos hS hn (neg hy)
      have a3 := sg_pos hS hn (neg hs)
      have ex : (x < 0 ∧ y < 0 ∧ z < 0) → ab x * d + ab y * e + ab z * f = -(x * d + y * e + z * f) := by
        rintro ⟨h1, h2, h3⟩
        simp only [ab]
        rw [show ((x.natAbs : Int)) = -x by omega, show ((y.natAbs : Int)) = -y by omega, show ((z.natAbs : Int)) = -z by omega, Int.neg_mul, Int.neg_mul, Int.neg_mul]
        omega
      constructor
      · rintro ⟨h | h, h4⟩
        · have q1 := a1.mp h.1
          have q2 := a2.mp h.2.1
          have p : x < 0 ∧ y < 0 ∧ z < 0 := ⟨by omega, by omega, by omega⟩
          refine ⟨.inr p, ?_⟩
          rw [eX h] at h4
          rw [ex p]
          have : ¬ 0 < -(x * d + y * e + z * f) := fun q => absurd (a3.mpr q) (by omega)
          omega
        · omega
      · rintro ⟨h | h, h4⟩
        · omega
        · have p : 0 < X ∧ 0 < Y ∧ 0 < S := ⟨a1.mpr (by omega), a2.mpr (by omega), hS⟩
          refine ⟨.inl p, ?_⟩
          rw [ex h] at h4
          rw [eX p]
          have : ¬ 0 < X * d + Y * e + S * f := fun q => absurd (a3.mp q) (by omega)
          omega
def cx (p q : S3) : S3 := ⟨p.y * q.z - p.z * q.y, p.z * q.x - p.x * q.z, p.x * q.y - p.y * q.x⟩
def ip (p q : S3) : Int := p.x * q.x + p.y * q.y + p.z * q.z
def dt (p q r : S3) : Int := ip p (cx q r)
def v3 (p : S4) : S3 := ⟨p.a, p.b, p.c⟩
def z3 : S3 := ⟨0, 0, 0⟩
theorem S3_ext {p q : S3} : p = q ↔ p.x = q.x ∧ p.y = q.y ∧ p.z = q.z := by
  cases p; cases q; simp
theorem cx_zero {p q : S3} : cx p q = z3 ↔ p.y * q.z = p.z * q.y ∧ p.z * q.x = p.x * q.z ∧ p.x * q.y = p.y * q.x := by
  rw [S3_ext]; simp only [cx, z3]; omega
theorem ip_nn (z : S3) : 0 ≤ ip z z := by
  have sq : ∀ a : Int, 0 ≤ a * a := fun a => by
    by_cases h : 0 ≤ a
    · exact Int.mul_nonneg h h
    · have := Int.mul_nonneg (show 0 ≤ -a by omega) (show 0 ≤ -a by omega)
      rw [Int.neg_mul_neg] at this; exact this
  have h1 := sq z.x; have h2 := sq z.y; have h3 := sq z.z
  simp only [ip]; omega
theorem ip_zero {z : S3} (h : ip z z = 0) : z.x = 0 ∧ z.y = 0 ∧ z.z = 0 := by
  have sq : ∀ a : Int, 0 ≤ a * a := fun a => by
    by_cases h : 0 ≤ a
    · exact Int.mul_nonneg h h
    · have := Int.mul_nonneg (show 0 ≤ -a by omega) (show 0 ≤ -a by omega)
      rw [Int.neg_mul_neg] at this; exact this
  have h1 := sq z.x; have h2 := sq z.y; have h3 := sq z.z
  simp only [ip] at h
  refine ⟨?_, ?_, ?_⟩
  · exact (Int.mul_eq_zero.mp (show _ * _ = 0 by omega)).elim id id
  · exact (Int.mul_eq_zero.mp (show _ * _ = 0 by omega)).elim id id
  · exact (Int.mul_eq_zero.mp (show _ * _ = 0 by omega)).elim id id
/-- rows along one another -/
theorem along {x z : S3} (h : cx x z = z3) : ip x z * z.x = x.x * ip z z ∧ ip x z * z.y = x.y * ip z z ∧ ip x z * z.z = x.z * ip z z := by
  obtain ⟨h1, h2, h3⟩ := cx_zero.mp h
  simp only [ip]
  refine ⟨?_, ?_, ?_⟩ <;> grind
theorem cx_cx {p q r : S3} (h : dt p q r = 0) : cx (cx q r) (cx p q) = z3 ∧ cx (cx r p) (cx p q) = z3 := by
  have e1 : (cx (cx q r) (cx p q)) = ⟨q.x * -dt p q r, q.y * -dt p q r, q.z * -dt p q r⟩ := by
    simp only [cx, dt, ip, S3.mk.injEq]; refine ⟨?_, ?_, ?_⟩ <;> grind
  have e2 : (cx (cx r p) (cx p q)) = ⟨p.x * dt p q r, p.y * dt p q r, p.z * dt p q r⟩ := by
    simp only [cx, dt, ip, S3.mk.injEq]; refine ⟨?_, ?_, ?_⟩ <;> grind
  rw [e1, e2, h]; simp [z3]
theorem core2 {a b c e f g i j d h : Int} (h1 : b * g = c * f) (h2 : c * e = a * g) (h3 : a * f = b * e) (hn : (i = a ∧ j = e) ∨ (i = b ∧ j = f) ∨ (i = c ∧ j = g)) (hi : i ≠ 0) :
    d * ab j + h * ab i ≤ 0 ↔ (ab e + ab f + ab g) * d + (ab a + ab b + ab c) * h ≤ 0 := by
  have k : ∀ {p q r s : Int}, p * q = r * s → ab p * ab q = ab r * ab s := fun {p q r s} h => by rw [← ab_mul, ← ab_mul, h]
  have hi' : 0 < ab i := by simp only [ab]; omega
  have nn : ∀ x : Int, 0 ≤ ab x := fun x => by simp only [ab]; omega
  have na := nn a; have nb := nn b; have nc := nn c
  have hv : 0 < ab a + ab b + ab c := by rcases hn with ⟨rfl, _⟩ | ⟨rfl, _⟩ | ⟨rfl, _⟩ <;> omega
  have e1 := k h1; have e2 := k h2; have e3 := k h3
  have key : (d * ab j + h * ab i) * (ab a + ab b + ab c) = ((ab e + ab f + ab g) * d + (ab a + ab b + ab c) * h) * ab i := by
    rcases hn with ⟨rfl, rfl⟩ | ⟨rfl, rfl⟩ | ⟨rfl, rfl⟩ <;> grind
  have := sg_pos hi' hv key
  omega

def Bd3 (v : S3) : Prop := (-500 ≤ v.x ∧ v.x ≤ 500) ∧ (-500 ≤ v.y ∧ v.y ≤ 500) ∧ (-500 ≤ v.z ∧ v.z ≤ 500)
def B6 (v : S3) : Prop := (-500000 ≤ v.x ∧ v.x ≤ 500000) ∧ (-500000 ≤ v.y ∧ v.y ≤ 500000) ∧ (-500000 ≤ v.z ∧ v.z ≤ 500000)
def Bd4 (p : S4) : Prop := Bd3 (v3 p) ∧ (-500 ≤ p.d ∧ p.d ≤ 500)
theorem okp_bd4 {p : S4} (h : okp p = true) : Bd4 p := by
  have := okp_iff.mp h
  exact ⟨⟨this.1, this.2.1, this.2.2.1⟩, this.2.2.2.1⟩
theorem cx_bd {p q : S3} (hp : Bd3 p) (hq : Bd3 q) : B6 (cx p q) := by
  obtain ⟨a1, a2, a3⟩ := hp
  obtain ⟨b1, b2, b3⟩ := hq
  have m1 := mul_bd a2 b3; have m2 := mul_bd a3 b2; have m3 := mul_bd a3 b1; have m4 := mul_bd a1 b3; have m5 := mul_bd a1 b2; have m6 := mul_bd a2 b1
  simp only [B6, cx]
  refine ⟨⟨?_, ?_⟩, ⟨?_, ?_⟩, ?_, ?_⟩ <;> omega
theorem ip_bd3 {u v : S3} (hu : Bd3 u) (hv : Bd3 v) : -750000 ≤ ip u v ∧ ip u v ≤ 750000 := by
  have m1 := mul_bd hu.1 hv.1; have m2 := mul_bd hu.2.1 hv.2.1; have m3 := mul_bd hu.2.2 hv.2.2
  simp only [ip]; omega
theorem ip_bd {u v : S3} (hu : B6 u) (hv : B6 v) : -750000000000 ≤ ip u v ∧ ip u v ≤ 750000000000 := by
  have m1 := mul_bd hu.1 hv.1; have m2 := mul_bd hu.2.1 hv.2.1; have m3 := mul_bd hu.2.2 hv.2.2
  simp only [ip]; omega
theorem dt_bd {p q r : S3} (hp : Bd3 p) (hq : Bd3 q) (hr : Bd3 r) : -750000000 ≤ dt p q r ∧ dt p q r ≤ 750000000 := by
  have hc := cx_bd hq hr
  have m1 := mul_bd hp.1 hc.1; have m2 := mul_bd hp.2.1 hc.2.1; have m3 := mul_bd hp.2.2 hc.2.2
  simp only [dt, ip]; omega

/-! ### the small functions -/
theorem l3Sign_f (k : Nat) (a : Int) : spec_l3Sign.f k a = some (sgn a) := by
  simp only [spec_l3Sign.f, decide_eq_true_eq, sgn]
  by_cases h : 0 < a
  · rw [if_pos h, if_pos h]
  · rw [if_neg (by omega), if_neg h]; by_cases h2 : a < 0 <;> simp [h2]
theorem sign_f (k : Nat) (a : Int) : impl_sign.f k a = some (sgn a) := by
  have e : (a != a) = false := by simp
  simp only [impl_sign.f, cmp_Compare_int.f, cmp_isNaN_int.f, Option.bind_some, e, show ((0 : Int) != 0) = false from rfl, Bool.false_eq_true, if_false, decide_eq_true_eq, sgn]
  by_cases h : 0 < a
  · rw [if_neg (by omega), if_pos h, if_pos h]; rfl
  · by_cases h2 : a < 0
    · rw [if_pos h2, if_neg h, if_pos h2]; rfl
    · rw [if_neg h2, if_neg h, if_neg h, if_neg h2]; rfl
theorem normal_f (k : Nat) (p : S4) : impl_normal.f k p = some (v3 p) := rfl
theorem l4Cross_f (k : Nat) {p q : S4} (hp : Bd3 (v3 p)) (hq : Bd3 (v3 q)) : spec_l4Cross.f k p q = some (cx (v3 p) (v3 q)) := by
  have := cx_bd hp hq
  simp only [B6, cx, v3] at this
  simp only [spec_l4Cross.f, W_sub_l, W_sub_r, cx, v3, Option.some.injEq, S3.mk.injEq]
  refine ⟨?_, ?_, ?_⟩ <;> exact W_id (by omega) (by omega)
theorem crossOf_f (k : Nat) {p q : S3} (hp : Bd3 p) (hq : Bd3 q) : impl_crossOf.f k p q = some (cx p q) := by
  have := cx_bd hp hq
  simp only [B6, cx] at this
  simp only [impl_crossOf.f, W_sub_l, W_sub_r, cx, Option.some.injEq, S3.mk.injEq]
  refine ⟨?_, ?_, ?_⟩ <;> exact W_id (by omega) (by omega)
theorem dot_f (k : Nat) {u v : S3} (h : -9223372036854775808 ≤ ip u v ∧ ip u v ≤ 9223372036854775807) : impl_dot.f k u v = some (ip u v) := by
  simp only [impl_dot.f, W_add_l, W_add_r]
  exact congrArg some (W_id h.1 h.2)
theorem l4Det3_f (k : Nat) {p q r : S4} (hp : Bd3 (v3 p)) (hq : Bd3 (v3 q)) (hr : Bd3 (v3 r)) : spec_l4Det3.f k p q r = some (dt (v3 p) (v3 q) (v3 r)) := by
  have := dt_bd hp hq hr
  simp only [spec_l4Det3.f, l4Cross_f k hq hr, Option.bind_some, W_add_l, W_add_r]
  exact congrArg some (W_id (by simp only [dt, ip, v3] at this ⊢; omega) (by simp only [dt, ip, v3] at this ⊢; omega))
theorem det_f (k : Nat) {p q r : S3} (hp : Bd3 p) (hq : Bd3 q) (hr : Bd3 r) : impl_det.f k p q r = some (dt p q r) := by
  have := dt_bd hp hq hr
  simp only [impl_det.f, crossOf_f k hq hr, Option.bind_some]
  rw [dot_f k (by simp only [dt] at this; omega)]; rfl
theorem det3_f (k : Nat) {p q r : S4} (hp : Bd3 (v3 p)) (hq : Bd3 (v3 q)) (hr : Bd3 (v3 r)) : impl_det3.f k p q r = some (dt (v3 p) (v3 q) (v3 r)) := by
  simp only [impl_det3.f, normal_f, Option.bind_some, det_f k hp hq hr]
/-- 1, -1 or 0 as two rows go the same way, opposite ways or neither -/
def par (p q : S3) : Int := if cx p q = z3 then sgn (ip p q) else 0
theorem z3_iff (c : S3) : (!((c.x == 0) && ((c.y == 0) && (c.z == 0)))) = true ↔ ¬ c = z3 := by
  rw [S3_ext]; simp [z3]; omega
theorem l4Parallel_f (k : Nat) {p q : S4} (hp : Bd3 (v3 p)) (hq : Bd3 (v3 q)) : spec_l4Parallel.f k p q = some (par (v3 p) (v3 q)) := by
  have := ip_bd3 hp hq
  simp only [spec_l4Parallel.f, l4Cross_f k hp hq, Option.bind_some, l3Sign_f, W_add_l, W_add_r, par, z3_iff]
  by_cases h : cx (v3 p) (v3 q) = z3
  · rw [if_neg (by simpa using h), if_pos h, W_id (by simp only [ip, v3] at this; omega) (by simp only [ip, v3] at this; omega)]; rfl
  · rw [if_pos h, if_neg h]
theorem parallel_f (k : Nat) {p q : S4} (hp : Bd3 (v3 p)) (hq : Bd3 (v3 q)) : impl_parallel.f k p q = some (par (v3 p) (v3 q)) := by
  have := ip_bd3 hp hq
  simp only [impl_parallel.f, normal_f, crossOf_f k hp hq, Option.bind_some, sign_f, par, z3_iff]
  by_cases h : cx (v3 p) (v3 q) = z3
  · rw [if_neg (by simpa using h), if_pos h, dot_f k (by omega)]; rfl
  · rw [if_pos h, if_neg h]

/-! ### two -/
def l1n (p : S4) : Int := ab p.a + ab p.b + ab p.c
def c2 (p q : S4) : Bool := decide (par (v3 p) (v3 q) < 0 ∧ l1n q * p.d + l1n p * q.d ≤ 0)
theorem ab_bd {x : Int} (h : -500 ≤ x ∧ x ≤ 500) : 0 ≤ ab x ∧ ab x ≤ 500 := by simp only [ab]; omega
theorem l1n_bd {p : S4} (h : Bd3 (v3 p)) : 0 ≤ l1n p ∧ l1n p ≤ 1500 := by
  have h1 := ab_bd h.1; have h2 := ab_bd h.2.1; have h3 := ab_bd h.2.2
  simp only [v3] at h1 h2 h3
  simp only [l1n]; omega
theorem l6Clash2_f (k : Nat) {p q : S4} (hp : Bd4 p) (hq : Bd4 q) : spec_l6Clash2.f k p q = some (c2 p q) := by
  have ap := hp.1; have aq := hq.1
  have bp := l1n_bd ap; have bq := l1n_bd aq
  have m1 := mul_bd (x := l1n q) (X := 1500) (y := p.d) (Y := 500) (by omega) hp.2
  have m2 := mul_bd (x := l1n p) (X := 1500) (y := q.d) (Y := 500) (by omega) hq.2
  have e1 : W (W (ab q.a + ab q.b) + ab q.c) = l1n q := by
    rw [W_add_l, W_id (by simp only [l1n] at bq; omega) (by simp only [l1n] at bq; omega)]; rfl
  have e2 : W (W (ab p.a + ab p.b) + ab p.c) = l1n p := by
    rw [W_add_l, W_id (by simp only [l1n] at bp; omega) (by simp only [l1n] at bp; omega)]; rfl
  have f : ∀ x : Int, -500 ≤ x ∧ x ≤ 500 → spec_l3Abs.f k x = some (ab x) := fun x h => l3Abs_f k (by omega) (by omega)
  have f1 := f q.a aq.1; have f2 := f q.b aq.2.1; have f3 := f q.c aq.2.2; have f4 := f p.a ap.1; have f5 := f p.b ap.2.1; have f6 := f p.c ap.2.2
  simp only [spec_l6Clash2.f, l4Parallel_f k ap aq, Option.bind_some, f1, f2, f3, f4, f5, f6, e1, e2, c2, decide_eq_true_eq]
  rw [W_add_l, W_add_r, W_id (x := l1n q * p.d + l1n p * q.d) (by omega) (by omega)]
  by_cases h : par (v3 p) (v3 q) < 0
  · rw [if_neg (by omega)]; congr 1; rw [decide_eq_decide]; exact ⟨fun g => ⟨h, g⟩, fun g => g.2⟩
  · rw [if_pos (by omega)]; congr 1; symm; rw [decide_eq_false_iff_not]; exact fun g => h g.1
theorem mx_ab {x : Int} (h : -500 ≤ x ∧ x ≤ 500) : (if W (0 - x) > x then W (0 - x) else x) = ab x := mx_abs (by omega)
theorem clash2_ev {p q : S4} (hp : Bd4 p) (hq : Bd4 q) : Ev (fun k => impl_clash2.f k p q) (c2 p q) := by
  have ap := hp.1; have aq := hq.1
  simp only [impl_clash2.f, parallel_f _ ap aq, normal_f, Option.bind_some, decide_eq_true_eq]
  by_cases h : par (v3 p) (v3 q) < 0
  · simp only [show ¬ par (v3 p) (v3 q) ≥ 0 by omega, if_false]
    have hc : cx (v3 p) (v3 q) = z3 := by
      by_cases c : cx (v3 p) (v3 q) = z3
      · exact c
      · simp only [par, if_neg c] at h; omega
    have hd : ¬ (p.a = 0 ∧ p.b = 0 ∧ p.c = 0) := by
      rintro ⟨h1, h2, h3⟩
      rw [par, if_pos hc] at h
      simp only [ip, v3, h1, h2, h3, Int.zero_mul, Int.add_zero, sgn] at h
      omega
    obtain ⟨h1, h2, h3⟩ := cx_zero.mp hc
    simp only [v3] at h1 h2 h3
    have w1 : W (0 + 1) = 1 := W_id (by omega) (by omega)
    have w2 : W (1 + 1) = 2 := W_id (by omega) (by omega)
    have key : ∀ {i j : Int}, (i = p.a ∧ j = q.a) ∨ (i = p.b ∧ j = q.b) ∨ (i = p.c ∧ j = q.c) → i ≠ 0 → (-500 ≤ i ∧ i ≤ 500) → (-500 ≤ j ∧ j ≤ 500) →
        decide (W (W (p.d * (if W (0 - j) > j then W (0 - j) else j)) + W (q.d * (if W (0 - i) > i then W (0 - i) else i))) ≤ 0) = c2 p q := fun {i j} hij hi bi bj => by
      have ci := ab_bd bi; have cj := ab_bd bj
      have m1 := mul_bd (x := p.d) (X := 500) (y := ab j) (Y := 500) hp.2 (by omega)
      have m2 := mul_bd (x := q.d) (X := 500) (y := ab i) (Y := 500) hq.2 (by omega)
      rw [mx_ab bi, mx_ab bj, W_add_l, W_add_r, W_id (by omega) (by omega)]
      have := core2 (d := p.d) (h := q.d) h1 h2 h3 hij hi
      simp only [c2]
      rw [decide_eq_decide, this]
      simp only [l1n]
      exact ⟨fun g => ⟨h, g⟩, fun g => g.2⟩
    have L : Lv (fun k n => impl_clash2.l5 k n 0 p q (v3 p) (v3 q)) (.inl ((c2 p q, ()), ())) := by
      refine Lv.step (g := fun k n => impl_clash2.s5 k (impl_clash2.l5 k n) 0 p q (v3 p) (v3 q)) ?_ (fun _ _ => rfl)
      by_cases z0 : p.a = 0
      · refine Lv.congr (f := fun k n => impl_clash2.l5 k n 1 p q (v3 p) (v3 q)) ?_ (fun k n => by simp [impl_clash2.s5, sel, v3, z0, W_1])
        refine Lv.step (g := fun k n => impl_clash2.s5 k (impl_clash2.l5 k n) 1 p q (v3 p) (v3 q)) ?_ (fun _ _ => rfl)
        by_cases z1 : p.b = 0
        · refine Lv.congr (f := fun k n => impl_clash2.l5 k n 2 p q (v3 p) (v3 q)) ?_ (fun k n => by simp [impl_clash2.s5, sel, v3, z1, W_2])
          refine Lv.step (g := fun k n => impl_clash2.s5 k (impl_clash2.l5 k n) 2 p q (v3 p) (v3 q)) ?_ (fun _ _ => rfl)
          have z2 : p.c ≠ 0 := fun z2 => hd ⟨z0, z1, z2⟩
          exact .now fun k n => by rw [← key (.inr (.inr ⟨rfl, rfl⟩)) z2 ap.2.2 aq.2.2]; simp [impl_clash2.s5, sel, v3, z2]
        · exact .now fun k n => by rw [← key (.inr (.inl ⟨rfl, rfl⟩)) z1 ap.2.1 aq.2.1]; simp [impl_clash2.s5, sel, v3, z1]
      · exact .now fun k n => by rw [← key (.inl ⟨rfl, rfl⟩) z0 ap.1 aq.1]; simp [impl_clash2.s5, sel, v3, z0]
    exact L.ev.bind (.now fun _ => rfl)
  · simp only [show par (v3 p) (v3 q) ≥ 0 by omega, if_true]
    refine .now fun k => ?_
    congr 1; symm; simp only [c2]; rw [decide_eq_false_iff_not]; exact fun g => h g.1
end Go.Proofs.YtalkkenkeilmpaaGreat.Q
