/- Weights, and clashes. -/
import Derived.Test.YtlkcpldohlemcaaN6
namespace Go.Proofs.Ytlkcpldohlemcaa.Q
open Go Go.RowKit Go.Proofs Go.Proofs.Ytlkcpldohlemcaa.Ev Go.Proofs.Ytlkcpldohlemcaa.G
set_option linter.unusedSimpArgs false
set_option linter.unusedVariables false

theorem opn_of {L : List S4} {j : Nat} (hj : j < L.length) (h : wl (L.take j) (rd L j) = true) : opn L = false := by
  unfold opn
  rw [anyF_iff.2 ⟨j, Nat.zero_le _, by omega, h⟩]; rfl
theorem clash_2 {L : List S4} {i j : Nat} (hij : i < j) (hj : j < L.length) (h : c2 (rd L i) (rd L j) = true) : opn L = false := by
  refine opn_of hj ?_
  have hl : (L.take j).length = j := by rw [List.length_take]; omega
  refine anyF_iff.2 ⟨i, Nat.zero_le _, by omega, ?_⟩
  unfold w2; rw [rd_take hij, h]; rfl
theorem clash_3 {L : List S4} {i j k : Nat} (hij : i < j) (hjk : j < k) (hk : k < L.length) (h : c3 (rd L i) (rd L j) (rd L k) = true) : opn L = false := by
  refine opn_of hk ?_
  have hl : (L.take k).length = k := by rw [List.length_take]; omega
  refine anyF_iff.2 ⟨i, Nat.zero_le _, by omega, ?_⟩
  unfold w2
  rw [Bool.or_eq_true]; right
  refine anyF_iff.2 ⟨j, by omega, by omega, ?_⟩
  unfold w3; rw [rd_take (by omega), rd_take hjk, h]; rfl
theorem clash_4 {L : List S4} {i j k m : Nat} (hij : i < j) (hjk : j < k) (hkm : k < m) (hm : m < L.length) (h : c4 (rd L i) (rd L j) (rd L k) (rd L m) = true) : opn L = false := by
  refine opn_of hm ?_
  have hl : (L.take m).length = m := by rw [List.length_take]; omega
  refine anyF_iff.2 ⟨i, Nat.zero_le _, by omega, ?_⟩
  unfold w2
  rw [Bool.or_eq_true]; right
  refine anyF_iff.2 ⟨j, by omega, by omega, ?_⟩
  unfold w3
  rw [Bool.or_eq_true]; right
  refine anyF_iff.2 ⟨k, by omega, by omega, ?_⟩
  unfold w4; rw [rd_take (by omega), rd_take (by omega), rd_take hkm, h]
theorem clash_of {L : List S4} (h : opn L = false) : (∃ i j, i < j ∧ j < L.length ∧ c2 (rd L (i : Nat)) (rd L (j : Nat)) = true) ∨ (∃ i j k, i < j ∧ j < k ∧ k < L.length ∧ c3 (rd L (i : Nat)) (rd L (j : Nat)) (rd L (k : Nat)) = true) ∨ (∃ i j k m, i < j ∧ j < k ∧ k < m ∧ m < L.length ∧ c4 (rd L (i : Nat)) (rd L (j : Nat)) (rd L (k : Nat)) (rd L (m : Nat)) = true) := by
  unfold opn at h
  rw [Bool.not_eq_false'] at h
  obtain ⟨m, _, hm, h⟩ := anyF_iff.1 h
  have hm : m < L.length := by omega
  have hl : (L.take m).length = m := by rw [List.length_take]; omega
  unfold opF wl at h
  obtain ⟨i, _, hi, h⟩ := anyF_iff.1 h
  have hi : i < m := by omega
  unfold w2 at h
  rw [Bool.or_eq_true] at h
  rcases h with h | h
  · rw [rd_take hi] at h; exact .inl ⟨i, m, hi, hm, h⟩
  obtain ⟨j, j0, j1, h⟩ := anyF_iff.1 h
  unfold w3 at h
  rw [Bool.or_eq_true] at h
  rcases h with h | h
  · rw [rd_take hi, rd_take (by omega)] at h; exact .inr (.inl ⟨i, j, m, by omega, by omega, hm, h⟩)
  obtain ⟨k, k0, k1, h⟩ := anyF_iff.1 h
  unfold w4 at h
  rw [rd_take hi, rd_take (by omega), rd_take (by omega)] at h
  exact .inr (.inr ⟨i, j, k, m, by omega, by omega, by omega, hm, h⟩)

/-- two bound normals: the first one and the other one's -/
theorem bound2 {p q : S3} {u v : Int} (a : u * p.x + v * q.x = 0) (b : u * p.y + v * q.y = 0) (c : u * p.z + v * q.z = 0) (hu : u ≠ 0) : cx p q = z3 := by
  have e1 : u * (p.y * q.z - p.z * q.y) = 0 := by grind
  have e2 : u * (p.z * q.x - p.x * q.z) = 0 := by grind
  have e3 : u * (p.x * q.y - p.y * q.x) = 0 := by grind
  have f1 := (Int.mul_eq_zero.1 e1).resolve_left hu
  have f2 := (Int.mul_eq_zero.1 e2).resolve_left hu
  have f3 := (Int.mul_eq_zero.1 e3).resolve_left hu
  unfold cx z3; rw [f1, f2, f3]
theorem c2_of {p q : S4} (hp : okp p = true) (hq : okp q = true) {u v : Int} (hu : 0 < u) (hv : 0 < v) (a : u * p.a + v * q.a = 0) (b : u * p.b + v * q.b = 0) (c : u * p.c + v * q.c = 0) (d : u * p.d + v * q.d ≤ 0) : c2 p q = true := by
  have hc : cx (v3 p) (v3 q) = z3 := bound2 (p := v3 p) (q := v3 q) a b c (by omega)
  unfold c2 par
  rw [if_pos hc, decide_eq_true_eq]
  constructor
  · have nn := ip_nn (v3 q)
    have nz := okp_nz hq
    have e : u * ip (v3 p) (v3 q) = -(v * ip (v3 q) (v3 q)) := by simp only [ip, v3]; grind
    have p1 : 0 < v * ip (v3 q) (v3 q) := Int.mul_pos hv (by omega)
    have : ip (v3 p) (v3 q) < 0 := by
      refine Int.not_le.1 fun h => ?_
      have := Int.mul_nonneg (Int.le_of_lt hu) h
      omega
    rw [sgn_neg.2 this]; decide
  · have m1 : ∀ {x y : Int}, u * x + v * y = 0 → u * ab x = v * ab y := fun {x y} h => by
      have e : u * x = -(v * y) := by omega
      have h1 : ab (u * x) = ab (v * y) := by rw [e]; unfold ab; rw [Int.natAbs_neg]
      rw [ab_mul, ab_mul] at h1
      have h2 : ab u = u := by unfold ab; omega
      have h3 : ab v = v := by unfold ab; omega
      rw [h2, h3] at h1; exact h1
    have e : u * l1n p = v * l1n q := by
      have := m1 a; have := m1 b; have := m1 c
      unfold l1n; grind
    have l0 : 0 ≤ l1n q := by unfold l1n ab; omega
    have f : u * (l1n q * p.d + l1n p * q.d) = l1n q * (u * p.d + v * q.d) := by
      have : u * (l1n q * p.d + l1n p * q.d) = l1n q * (u * p.d) + (u * l1n p) * q.d := by grind
      rw [this, e]; grind
    have g : l1n q * (u * p.d + v * q.d) ≤ 0 := Int.mul_nonpos_of_nonneg_of_nonpos l0 d
    refine Int.not_lt.1 fun h => ?_
    have := Int.mul_pos hu h
    omega
theorem ab_pos {x : Int} (h : 0 < x) : ab x = x := by unfold ab; omega
theorem up_le {N x y z : Int} (h : 0 < N) (e : N * x = y) (hy : y ≤ 0) : x ≤ 0 := by
  refine Int.not_lt.1 fun hx => ?_
  have := Int.mul_pos h hx
  omega
theorem c3_of {p q r : S4} {u v w : Int} (hN : cx (v3 p) (v3 q) ≠ z3) (hu : 0 < u) (hv : 0 < v) (hw : 0 < w) (a : u * p.a + v * q.a + w * r.a = 0) (b : u * p.b + v * q.b + w * r.b = 0) (c : u * p.c + v * q.c + w * r.c = 0) (d : u * p.d + v * q.d + w * r.d ≤ 0) : c3 p q r = true := by
  have N0 : 0 < ip (cx (v3 p) (v3 q)) (cx (v3 p) (v3 q)) := by
    have h0 := ip_nn (cx (v3 p) (v3 q))
    have h1 : ip (cx (v3 p) (v3 q)) (cx (v3 p) (v3 q)) ≠ 0 := fun h => hN (by
      obtain ⟨h1, h2, h3⟩ := ip_zero h
      exact S3_ext.2 ⟨h1, h2, h3⟩)
    omega
  have e1 : w * ip (cx (v3 q) (v3 r)) (cx (v3 p) (v3 q)) = u * ip (cx (v3 p) (v3 q)) (cx (v3 p) (v3 q)) := by simp only [ip, cx, v3]; grind
  have e2 : w * ip (cx (v3 r) (v3 p)) (cx (v3 p) (v3 q)) = v * ip (cx (v3 p) (v3 q)) (cx (v3 p) (v3 q)) := by simp only [ip, cx, v3]; grind
  have e3 : w * dt (v3 p) (v3 q) (v3 r) = 0 := by simp only [dt, ip, cx, v3]; grind
  generalize hX : ip (cx (v3 q) (v3 r)) (cx (v3 p) (v3 q)) = X at *
  generalize hY : ip (cx (v3 r) (v3 p)) (cx (v3 p) (v3 q)) = Y at *
  generalize hZ : ip (cx (v3 p) (v3 q)) (cx (v3 p) (v3 q)) = Z at *
  have pos : ∀ {x y : Int}, w * x = y * Z → 0 < y → 0 < x := fun {x y} e hy => by
    refine Int.not_le.1 fun h => ?_
    have p1 := Int.mul_pos hy N0
    have p2 : w * x ≤ 0 := Int.mul_nonpos_of_nonneg_of_nonpos (by omega) h
    omega
  have X0 := pos e1 hu
  have Y0 := pos e2 hv
  unfold c3
  rw [decide_eq_true_eq, hX, hY, hZ]
  refine ⟨(Int.mul_eq_zero.1 e3).resolve_left (by omega), .inl ⟨X0, Y0, N0⟩, ?_⟩
  rw [ab_pos X0, ab_pos Y0, ab_pos N0]
  refine up_le (z := 0) hw (y := Z * (u * p.d + v * q.d + w * r.d)) ?_ (Int.mul_nonpos_of_nonneg_of_nonpos (by omega) d)
  have : w * (X * p.d + Y * q.d + Z * r.d) = (w * X) * p.d + (w * Y) * q.d + w * Z * r.d := by grind
  rw [this, e1, e2]; grind
theorem c4_of {p q r s : S4} {u v w t : Int} (hT : dt (v3 p) (v3 q) (v3 r) ≠ 0) (hu : 0 < u) (hv : 0 < v) (hw : 0 < w) (ht : 0 < t) (a : u * p.a + v * q.a + w * r.a + t * s.a = 0) (b : u * p.b + v * q.b + w * r.b + t * s.b = 0) (c : u * p.c + v * q.c + w * r.c + t * s.c = 0) (d : u * p.d + v * q.d + w * r.d + t * s.d ≤ 0) : c4 p q r s = true := by
  have e1 : t * dt (v3 q) (v3 r) (v3 s) = u * -dt (v3 p) (v3 q) (v3 r) := by simp only [dt, ip, cx, v3]; grind
  have e2 : t * -dt (v3 p) (v3 r) (v3 s) = v * -dt (v3 p) (v3 q) (v3 r) := by simp only [dt, ip, cx, v3]; grind
  have e3 : t * dt (v3 p) (v3 q) (v3 s) = w * -dt (v3 p) (v3 q) (v3 r) := by simp only [dt, ip, cx, v3]; grind
  unfold c4
  rw [decide_eq_true_eq]
  have hT' : -dt (v3 p) (v3 q) (v3 r) ≠ 0 := by omega
  generalize dt (v3 q) (v3 r) (v3 s) = X at *
  generalize -dt (v3 p) (v3 r) (v3 s) = Y at *
  generalize dt (v3 p) (v3 q) (v3 s) = Z at *
  generalize -dt (v3 p) (v3 q) (v3 r) = T at *
  have key : ∀ {X Y Z T : Int}, 0 < T → t * X = u * T → t * Y = v * T → t * Z = w * T → (0 < X ∧ 0 < Y ∧ 0 < Z) ∧ X * p.d + Y * q.d + Z * r.d + T * s.d ≤ 0 := fun {X Y Z T} hT e1 e2 e3 => by
    have pos : ∀ {x y : Int}, t * x = y * T → 0 < y → 0 < x := fun {x y} e hy => by
      refine Int.not_le.1 fun h => ?_
      have p1 := Int.mul_pos hy hT
      have p2 : t * x ≤ 0 := Int.mul_nonpos_of_nonneg_of_nonpos (by omega) h
      omega
    refine ⟨⟨pos e1 hu, pos e2 hv, pos e3 hw⟩, up_le (z := 0) ht (y := T * (u * p.d + v * q.d + w * r.d + t * s.d)) ?_ (Int.mul_nonpos_of_nonneg_of_nonpos (by omega) d)⟩
    have : t * (X * p.d + Y * q.d + Z * r.d + T * s.d) = (t * X) * p.d + (t * Y) * q.d + (t * Z) * r.d + t * T * s.d := by grind
    rw [this, e1, e2, e3]; grind
  by_cases h : 0 < T
  · obtain ⟨⟨h1, h2, h3⟩, h4⟩ := key h e1 e2 e3
    refine ⟨.inl ⟨h1, h2, h3, h⟩, ?_⟩
    rw [ab_pos h1, ab_pos h2, ab_pos h3, ab_pos h]; exact h4
  · obtain ⟨⟨h1, h2, h3⟩, h4⟩ := key (X := -X) (Y := -Y) (Z := -Z) (T := -T) (by omega) (by grind) (by grind) (by grind)
    refine ⟨.inr ⟨by omega, by omega, by omega, by omega⟩, ?_⟩
    have n : ∀ x : Int, 0 < -x → ab x = -x := fun x hx => by unfold ab; omega
    rw [n X h1, n Y h2, n Z h3, n T (by omega)]; exact h4
/-- three normals without a volume are bound. -/
theorem dep3 {p q r : S3} (h : dt p q r = 0) : ∃ u v w : Int, (u ≠ 0 ∨ v ≠ 0 ∨ w ≠ 0) ∧ u * p.x + v * q.x + w * r.x = 0 ∧ u * p.y + v * q.y + w * r.y = 0 ∧ u * p.z + v * q.z + w * r.z = 0 := by
  by_cases hN : cx p q = z3
  · obtain ⟨c1, c2, c3⟩ := cx_zero.1 hN
    by_cases hq : ip q q = 0
    · obtain ⟨z1, z2, z3⟩ := ip_zero hq
      exact ⟨0, 1, 0, .inr (.inl (by omega)), by rw [z1]; omega, by rw [z2]; omega, by rw [z3]; omega⟩
    · refine ⟨ip q q, -ip p q, 0, .inl hq, ?_, ?_, ?_⟩ <;> simp only [ip] <;> grind
  · have N0 : ip (cx p q) (cx p q) ≠ 0 := fun h => hN (by
      obtain ⟨h1, h2, h3⟩ := ip_zero h
      exact S3_ext.2 ⟨h1, h2, h3⟩)
    refine ⟨ip (cx q r) (cx p q), ip (cx r p) (cx p q), ip (cx p q) (cx p q), .inr (.inr N0), ?_, ?_, ?_⟩
    all_goals
      simp only [dt, ip, cx] at h ⊢
      grind
/-- four always are. -/
theorem dep4 (p q r s : S3) : ∃ u v w t : Int, (u ≠ 0 ∨ v ≠ 0 ∨ w ≠ 0 ∨ t ≠ 0) ∧ u * p.x + v * q.x + w * r.x + t * s.x = 0 ∧ u * p.y + v * q.y + w * r.y + t * s.y = 0 ∧ u * p.z + v * q.z + w * r.z + t * s.z = 0 := by
  by_cases h : dt p q r = 0
  · obtain ⟨u, v, w, hn, h1, h2, h3⟩ := dep3 h
    exact ⟨u, v, w, 0, by omega, by omega, by omega, by omega⟩
  · refine ⟨dt q r s, -dt p r s, dt p q s, -dt p q r, by omega, ?_, ?_, ?_⟩ <;> simp only [dt, ip, cx] <;> grind
end Go.Proofs.Ytlkcpldohlemcaa.Q
