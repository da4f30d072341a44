/- Picked out of other texts. -/
import Derived.Test.YtalkkenkeilmpaaGreatZ1
namespace Go.Proofs.YtalkkenkeilmpaaGreat.Q
open Go Go.RowKit Go.Proofs Go.Proofs.YtalkkenkeilmpaaGreat.Ev Go.Proofs.YtalkkenkeilmpaaGreat.G
set_option linter.unusedSimpArgs false
set_option linter.unusedVariables false

set_option linter.unusedSimpArgs false
set_option linter.unusedVariables false
def ls (f : Nat → Int) : List Nat → Int
  | [] => 0
  | i :: l => f i + ls f l
theorem ls_app (f : Nat → Int) : ∀ a b : List Nat, ls f (a ++ b) = ls f a + ls f b
  | [], b => by simp [ls]
  | i :: a, b => by simp [ls, ls_app f a b]; omega
theorem ls_zero {f : Nat → Int} : ∀ {l : List Nat}, (∀ i ∈ l, f i = 0) → ls f l = 0
  | [], _ => rfl
  | i :: l, h => by simp only [ls]; rw [h i (List.mem_cons_self ..), ls_zero fun j hj => h j (List.mem_cons_of_mem _ hj)]; rfl
theorem ls_congr {f g : Nat → Int} : ∀ {l : List Nat}, (∀ i ∈ l, f i = g i) → ls f l = ls g l
  | [], _ => rfl
  | i :: l, h => by simp only [ls]; rw [h i (List.mem_cons_self ..), ls_congr fun j hj => h j (List.mem_cons_of_mem _ hj)]
theorem ls_lin (x y : Int) (f g : Nat → Int) : ∀ l : List Nat, ls (fun i => x * f i + y * g i) l = x * ls f l + y * ls g l
  | [] => by simp [ls]
  | i :: l => by simp only [ls]; rw [ls_lin x y f g l]; grind
theorem ls_filter {v f : Nat → Int} : ∀ l : List Nat, ls (fun i => v i * f i) (l.filter fun i => decide (v i ≠ 0)) = ls (fun i => v i * f i) l
  | [] => rfl
  | i :: l => by
    by_cases h : v i = 0
    · rw [List.filter_cons_of_neg (by simp [h])]; simp only [ls]; rw [h, Int.zero_mul, Int.zero_add]; exact ls_filter l
    · rw [List.filter_cons_of_pos (by simp [h])]; simp only [ls]; rw [ls_filter l]
theorem ls_nn {f : Nat → Int} : ∀ {l : List Nat}, (∀ i ∈ l, 0 ≤ f i) → 0 ≤ ls f l
  | [], _ => Int.le_refl _
  | i :: l, h => by
    have := h i (List.mem_cons_self ..)
    have := ls_nn fun j hj => h j (List.mem_cons_of_mem _ hj)
    simp only [ls]; omega
theorem ls_pos {f : Nat → Int} : ∀ {l : List Nat}, (∀ i ∈ l, 0 ≤ f i) → (∃ i ∈ l, 0 < f i) → 0 < ls f l
  | [], _, ⟨i, hi, _⟩ => by cases hi
  | i :: l, h, ⟨j, hj, hp⟩ => by
    have h1 := h i (List.mem_cons_self ..)
    have h2 : ∀ j ∈ l, 0 ≤ f j := fun j hj => h j (List.mem_cons_of_mem _ hj)
    simp only [ls]
    rcases List.mem_cons.1 hj with rfl | hj
    · have := ls_nn h2; omega
    · have := ls_pos h2 ⟨j, hj, hp⟩; omega
abbrev wA (L : List S4) (u : Nat → Int) (i : Nat) : Int := u i * (rd L (i : Int)).a
abbrev wB (L : List S4) (u : Nat → Int) (i : Nat) : Int := u i * (rd L (i : Int)).b
abbrev wC (L : List S4) (u : Nat → Int) (i : Nat) : Int := u i * (rd L (i : Int)).c
abbrev wD (L : List S4) (u : Nat → Int) (i : Nat) : Int := u i * (rd L (i : Int)).d
structure Nul (L : List S4) (l : List Nat) (u : Nat → Int) : Prop where
  a : ls (wA L u) l = 0
  b : ls (wB L u) l = 0
  c : ls (wC L u) l = 0
structure Cert (L : List S4) (l : List Nat) (u : Nat → Int) : Prop where
  lt : ∀ i ∈ l, i < L.length
  inc : l.Pairwise (· < ·)
  pos : ∀ i ∈ l, 0 < u i
  ne : l ≠ []
  nul : Nul L l u
  d : ls (wD L u) l ≤ 0
theorem Nul.lin {L : List S4} {l : List Nat} {u v : Nat → Int} (h : Nul L l u) (h2 : Nul L l v) (x y : Int) : Nul L l (fun i => x * u i + y * v i) := by
  have e : ∀ f : Nat → Int, ls (fun i => (x * u i + y * v i) * f i) l = x * ls (fun i => u i * f i) l + y * ls (fun i => v i * f i) l := fun f => by
    rw [← ls_lin]; exact ls_congr fun i _ => by grind
  have ha := h.a; have hb := h.b; have hc := h.c
  have ka := h2.a; have kb := h2.b; have kc := h2.c
  unfold wA at ha ka; unfold wB at hb kb; unfold wC at hc kc
  refine ⟨?_, ?_, ?_⟩
  · show ls (fun i => (x * u i + y * v i) * (rd L (i : Int)).a) l = 0; rw [e, ha, ka]; omega
  · show ls (fun i => (x * u i + y * v i) * (rd L (i : Int)).b) l = 0; rw [e, hb, kb]; omega
  · show ls (fun i => (x * u i + y * v i) * (rd L (i : Int)).c) l = 0; rw [e, hc, kc]; omega
theorem wD_lin {L : List S4} {l : List Nat} {u v : Nat → Int} (x y : Int) : ls (wD L (fun i => x * u i + y * v i)) l = x * ls (wD L u) l + y * ls (wD L v) l := by
  rw [← ls_lin]; exact ls_congr fun i _ => by unfold wD; grind
theorem Cert.mk0 {L : List S4} {l : List Nat} {v : Nat → Int} (lt : ∀ i ∈ l, i < L.length) (inc : l.Pairwise (· < ·)) (nn : ∀ i ∈ l, 0 ≤ v i) (ne : ∃ i ∈ l, v i ≠ 0) (nul : Nul L l v) (d : ls (wD L v) l ≤ 0) : Cert L (l.filter fun i => decide (v i ≠ 0)) v where
  lt := fun i hi => lt i (List.mem_filter.1 hi).1
  inc := inc.filter _
  pos := fun i hi => by
    obtain ⟨h1, h2⟩ := List.mem_filter.1 hi
    have := nn i h1
    have : v i ≠ 0 := by simpa using h2
    omega
  ne := fun h => by
    obtain ⟨i, hi, hv⟩ := ne
    have : i ∈ l.filter fun i => decide (v i ≠ 0) := List.mem_filter.2 ⟨hi, by simp [hv]⟩
    rw [h] at this; cases this
  nul := ⟨by unfold wA; rw [ls_filter]; exact nul.a, by unfold wB; rw [ls_filter]; exact nul.b, by unfold wC; rw [ls_filter]; exact nul.c⟩
  d := by unfold wD; rw [ls_filter]; exact d
theorem filter_lt {l : List Nat} {v : Nat → Int} {j : Nat} (hj : j ∈ l) (hv : v j = 0) : (l.filter fun i => decide (v i ≠ 0)).length < l.length := by
  have h1 := List.length_filter_le (fun i => decide (v i ≠ 0)) l
  refine Nat.lt_of_le_of_ne h1 fun h => ?_
  have := List.length_filter_eq_length_iff.1 h j hj
  simp [hv] at this
theorem ratio {u m : Nat → Int} : ∀ {l : List Nat}, (∀ i ∈ l, 0 < u i) → (∃ j ∈ l, m j < 0) → ∃ j ∈ l, m j < 0 ∧ ∀ i ∈ l, m i < 0 → u j * (-m i) ≤ u i * (-m j)
  | [], _, ⟨j, hj, _⟩ => by cases hj
  | k :: l, hu, ⟨j, hj, hm⟩ => by
    have hu' : ∀ i ∈ l, 0 < u i := fun i hi => hu i (List.mem_cons_of_mem _ hi)
    by_cases he : ∃ j ∈ l, m j < 0
    · obtain ⟨x, hx, mx, hr⟩ := ratio hu' he
      by_cases mk : m k < 0
      · by_cases c : u x * (-m k) ≤ u k * (-m x)
        · refine ⟨x, List.mem_cons_of_mem _ hx, mx, fun i hi mi => ?_⟩
          rcases List.mem_cons.1 hi with rfl | hi
          · exact c
          · exact hr i hi mi
        · refine ⟨k, List.mem_cons_self .., mk, fun i hi mi => ?_⟩
          rcases List.mem_cons.1 hi with rfl | hi
          · exact Int.le_refl _
          · have h1 := hr i hi mi
            have c' : u k * (-m x) ≤ u x * (-m k) := by omega
            have ux := hu' x hx
            -- u k * -mi <= u i * -mk, after a multiplication by -mx
            have p1 : u k * (-m x) * (-m i) ≤ u x * (-m k) * (-m i) := Int.mul_le_mul_of_nonneg_right c' (by omega)
            have p2 : u x * (-m i) * (-m k) ≤ u i * (-m x) * (-m k) := Int.mul_le_mul_of_nonneg_right h1 (by omega)
            have p3 : (u k * (-m i)) * (-m x) ≤ (u i * (-m k)) * (-m x) := by
              have e1 : (u k * (-m i)) * (-m x) = u k * (-m x) * (-m i) := by grind
              have e2 : (u i * (-m k)) * (-m x) = u i * (-m x) * (-m k) := by grind
              have e3 : u x * (-m k) * (-m i) = u x * (-m i) * (-m k) := by grind
              omega
            exact Int.le_of_mul_le_mul_right p3 (by omega)
      · refine ⟨x, List.mem_cons_of_mem _ hx, mx, fun i hi mi => ?_⟩
        rcases List.mem_cons.1 hi with rfl | hi
        · exact absurd mi mk
        · exact hr i hi mi
    · rcases List.mem_cons.1 hj with rfl | hj
      · refine ⟨j, List.mem_cons_self .., hm, fun i hi mi => ?_⟩
        rcases List.mem_cons.1 hi with rfl | hi
        · exact Int.le_refl _
        · exact absurd ⟨i, hi, mi⟩ he
      · exact absurd ⟨j, hj, hm⟩ he
theorem Cert.less0 {L : List S4} {l : List Nat} {u m : Nat → Int} (h : Cert L l u) (hm : Nul L l m) (hd : ls (wD L m) l ≤ 0) (h0 : ∃ i ∈ l, m i = 0) (h1 : ∃ i ∈ l, m i ≠ 0) : ∃ l' u', Cert L l' u' ∧ l'.length < l.length := by
  by_cases hn : ∃ j ∈ l, m j < 0
  · obtain ⟨j, hj, mj, hr⟩ := ratio h.pos hn
    obtain ⟨z, hz, mz⟩ := h0
    refine ⟨_, fun i => (-m j) * u i + u j * m i, Cert.mk0 h.lt h.inc (fun i hi => ?_) ⟨z, hz, ?_⟩ (h.nul.lin hm _ _) ?_, filter_lt hj ?_⟩
    · have ui := h.pos i hi
      have uj := h.pos j hj
      by_cases mi : m i < 0
      · have := hr i hi mi
        have e1 : u j * (-m i) = -(u j * m i) := by grind
        have e2 : u i * (-m j) = (-m j) * u i := by grind
        show 0 ≤ (-m j) * u i + u j * m i
        omega
      · have p1 : 0 < (-m j) * u i := Int.mul_pos (by omega) ui
        have p2 : 0 ≤ u j * m i := Int.mul_nonneg (by omega) (by omega)
        show 0 ≤ (-m j) * u i + u j * m i
        omega
    · have p1 : 0 < (-m j) * u z := Int.mul_pos (by omega) (h.pos z hz)
      show (-m j) * u z + u j * m z ≠ 0
      rw [mz, Int.mul_zero]; omega
    · rw [wD_lin]
      have p1 : 0 ≤ (-m j) * (-(ls (wD L u) l)) := Int.mul_nonneg (by omega) (by have := h.d; omega)
      have p2 : 0 ≤ u j * (-(ls (wD L m) l)) := Int.mul_nonneg (by have := h.pos j hj; omega) (by omega)
      have e1 : (-m j) * (-(ls (wD L u) l)) = -((-m j) * ls (wD L u) l) := by grind
      have e2 : u j * (-(ls (wD L m) l)) = -(u j * ls (wD L m) l) := by grind
      omega
    · show (-m j) * u j + u j * m j = 0
      grind
  · obtain ⟨z, hz, mz⟩ := h0
    exact ⟨_, m, Cert.mk0 h.lt h.inc (fun i hi => by have : ¬ m i < 0 := fun c => hn ⟨i, hi, c⟩; omega) h1 hm hd, filter_lt hz mz⟩
theorem Cert.less {L : List S4} {l : List Nat} {u m : Nat → Int} (h : Cert L l u) (hm : Nul L l m) (h0 : ∃ i ∈ l, m i = 0) (h1 : ∃ i ∈ l, m i ≠ 0) : ∃ l' u', Cert L l' u' ∧ l'.length < l.length := by
  by_cases hd : ls (wD L m) l ≤ 0
  · exact h.less0 hm hd h0 h1
  · have hm2 : Nul L l (fun i => (-1) * m i + 0 * m i) := hm.lin hm (-1) 0
    refine h.less0 hm2 (by rw [wD_lin]; omega) ?_ ?_
    · obtain ⟨i, hi, e⟩ := h0; exact ⟨i, hi, by show (-1) * m i + 0 * m i = 0; omega⟩
    · obtain ⟨i, hi, e⟩ := h1; exact ⟨i, hi, by show (-1) * m i + 0 * m i ≠ 0; omega⟩
set_option linter.unusedSimpArgs false
set_option linter.unusedVariables false
theorem opn_of {L : List S4} {j : Nat} (hj : j < L.length) (h : wl (L.take j) (rd L j) = true) : opn L = false := by
  unfold opn
  rw [anyF_iff.2 ⟨j, Nat.zero_le _, by omega, h⟩]; rfl
theorem clash_2 {L : List S4} {i j : Nat} (hij : i < j) (hj : j < L.length) (h : c2 (rd L i) (rd L j) = true) : opn L = false := by
  refine opn_of hj ?_
  have hl : (L.take j).length = j := by rw [List.length_take]; omega
  refine anyF_iff.2 ⟨i, Nat.zero_le _, by omega, ?_⟩
  unfold w2; rw [rd_take hij, h]; rfl
theorem clash_3 {L : List S4} {i j k : Nat} (hij : i < j) (hjk : j < k) (hk : k < L.length) (h : c3 (rd L i) (rd L j) (rd L k) = true) : opn L = false := by
  refine opn_of hk ?_
  have hl : (L.take k).length = k := by rw [List.length_take]; omega
  refine anyF_iff.2 ⟨i, Nat.zero_le _, by omega, ?_⟩
  unfold w2
  rw [Bool.or_eq_true]; right
  refine anyF_iff.2 ⟨j, by omega, by omega, ?_⟩
  unfold w3; rw [rd_take (by omega), rd_take hjk, h]; rfl
theorem clash_4 {L : List S4} {i j k m : Nat} (hij : i < j) (hjk : j < k) (hkm : k < m) (hm : m < L.length) (h : c4 (rd L i) (rd L j) (rd L k) (rd L m) = true) : opn L = false := by
  refine opn_of hm ?_
  have hl : (L.take m).length = m := by rw [List.length_take]; omega
  refine anyF_iff.2 ⟨i, Nat.zero_le _, by omega, ?_⟩
  unfold w2
  rw [Bool.or_eq_true]; right
  refine anyF_iff.2 ⟨j, by omega, by omega, ?_⟩
  unfold w3
  rw [Bool.or_eq_true]; right
  refine anyF_iff.2 ⟨k, by omega, by omega, ?_⟩
  unfold w4; rw [rd_take (by omega), rd_take (by omega), rd_take hkm, h]
theorem clash_of {L : List S4} (h : opn L = false) : (∃ i j, i < j ∧ j < L.length ∧ c2 (rd L (i : Nat)) (rd L (j : Nat)) = true) ∨ (∃ i j k, i < j ∧ j < k ∧ k < L.length ∧ c3 (rd L (i : Nat)) (rd L (j : Nat)) (rd L (k : Nat)) = true) ∨ (∃ i j k m, i < j ∧ j < k ∧ k < m ∧ m < L.length ∧ c4 (rd L (i : Nat)) (rd L (j : Nat)) (rd L (k : Nat)) (rd L (m : Nat)) = true) := by
  unfold opn at h
  rw [Bool.not_eq_false'] at h
  obtain ⟨m, _, hm, h⟩ := anyF_iff.1 h
  have hm : m < L.length := by omega
  have hl : (L.take m).length = m := by rw [List.length_take]; omega
  unfold opF wl at h
  obtain ⟨i, _, hi, h⟩ := anyF_iff.1 h
  have hi : i < m := by omega
  unfold w2 at h
  rw [Bool.or_eq_true] at h
  rcases h with h | h
  · rw [rd_take hi] at h; exact .inl ⟨i, m, hi, hm, h⟩
  obtain ⟨j, j0, j1, h⟩ := anyF_iff.1 h
  unfold w3 at h
  rw [Bool.or_eq_true] at h
  rcases h with h | h
  · rw [rd_take hi, rd_take (by omega)] at h; exact .inr (.inl ⟨i, j, m, by omega, by omega, hm, h⟩)
  obtain ⟨k, k0, k1, h⟩ := anyF_iff.1 h
  unfold w4 at h
  rw [rd_take hi, rd_take (by omega), rd_take (by omega)] at h
  exact .inr (.inr ⟨i, j, k, m, by omega, by omega, by omega, hm, h⟩)
theorem bound2 {p q : S3} {u v : Int} (a : u * p.x + v * q.x = 0) (b : u * p.y + v * q.y = 0) (c : u * p.z + v * q.z = 0) (hu : u ≠ 0) : cx p q = z3 := by
  have e1 : u * (p.y * q.z - p.z * q.y) = 0 := by grind
  have e2 : u * (p.z * q.x - p.x * q.z) = 0 := by grind
  have e3 : u * (p.x * q.y - p.y * q.x) = 0 := by grind
  have f1 := (Int.mul_eq_zero.1 e1).resolve_left hu
  have f2 := (Int.mul_eq_zero.1 e2).resolve_left hu
  have f3 := (Int.mul_eq_zero.1 e3).resolve_left hu
  unfold cx z3; rw [f1, f2, f3]
theorem c2_of {p q : S4} (hp : okp p = true) (hq : okp q = true) {u v : Int} (hu : 0 < u) (hv : 0 < v) (a : u * p.a + v * q.a = 0) (b : u * p.b + v * q.b = 0) (c : u * p.c + v * q.c = 0) (d : u * p.d + v * q.d ≤ 0) : c2 p q = true := by
  have hc : cx (v3 p) (v3 q) = z3 := bound2 (p := v3 p) (q := v3 q) a b c (by omega)
  unfold c2 par
  rw [if_pos hc, decide_eq_true_eq]
  constructor
  · have nn := ip_nn (v3 q)
    have nz := okp_nz hq
    have e : u * ip (v3 p) (v3 q) = -(v * ip (v3 q) (v3 q)) := by simp only [ip, v3]; grind
    have p1 : 0 < v * ip (v3 q) (v3 q) := Int.mul_pos hv (by omega)
    have : ip (v3 p) (v3 q) < 0 := by
      refine Int.not_le.1 fun h => ?_
      have := Int.mul_nonneg (Int.le_of_lt hu) h
      omega
    rw [sgn_neg.2 this]; decide
  · have m1 : ∀ {x y : Int}, u * x + v * y = 0 → u * ab x = v * ab y := fun {x y} h => by
      have e : u * x = -(v * y) := by omega
      have h1 : ab (u * x) = ab (v * y) := by rw [e]; unfold ab; rw [Int.natAbs_neg]
      rw [ab_mul, ab_mul] at h1
      have h2 : ab u = u := by unfold ab; omega
      have h3 : ab v = v := by unfold ab; omega
      rw [h2, h3] at h1; exact h1
    have e : u * l1n p = v * l1n q := by
      have := m1 a; have := m1 b; have := m1 c
      unfold l1n; grind
    have l0 : 0 ≤ l1n q := by unfold l1n ab; omega
    have f : u * (l1n q * p.d + l1n p * q.d) = l1n q * (u * p.d + v * q.d) := by
      have : u * (l1n q * p.d + l1n p * q.d) = l1n q * (u * p.d) + (u * l1n p) * q.d := by grind
      rw [this, e]; grind
    have g : l1n q * (u * p.d + v * q.d) ≤ 0 := Int.mul_nonpos_of_nonneg_of_nonpos l0 d
    refine Int.not_lt.1 fun h => ?_
    have := Int.mul_pos hu h
    omega
theorem ab_pos {x : Int} (h : 0 < x) : ab x = x := by unfold ab; omega
theorem up_le {N x y z : Int} (h : 0 < N) (e : N * x = y) (hy : y ≤ 0) : x ≤ 0 := by
  refine Int.not_lt.1 fun hx => ?_
  have := Int.mul_pos h hx
  omega
theorem c3_of {p q r : S4} {u v w : Int} (hN : cx (v3 p) (v3 q) ≠ z3) (hu : 0 < u) (hv : 0 < v) (hw : 0 < w) (a : u * p.a + v * q.a + w * r.a = 0) (b : u * p.b + v * q.b + w * r.b = 0) (c : u * p.c + v * q.c + w * r.c = 0) (d : u * p.d + v * q.d + w * r.d ≤ 0) : c3 p q r = true := by
  have N0 : 0 < ip (cx (v3 p) (v3 q)) (cx (v3 p) (v3 q)) := by
    have h0 := ip_nn (cx (v3 p) (v3 q))
    have h1 : ip (cx (v3 p) (v3 q)) (cx (v3 p) (v3 q)) ≠ 0 := fun h => hN (by
      obtain ⟨h1, h2, h3⟩ := ip_zero h
      exact S3_ext.2 ⟨h1, h2, h3⟩)
    omega
  have e1 : w * ip (cx (v3 q) (v3 r)) (cx (v3 p) (v3 q)) = u * ip (cx (v3 p) (v3 q)) (cx (v3 p) (v3 q)) := by simp only [ip, cx, v3]; grind
  have e2 : w * ip (cx (v3 r) (v3 p)) (cx (v3 p) (v3 q)) = v * ip (cx (v3 p) (v3 q)) (cx (v3 p) (v3 q)) := by simp only [ip, cx, v3]; grind
  have e3 : w * dt (v3 p) (v3 q) (v3 r) = 0 := by simp only [dt, ip, cx, v3]; grind
  generalize hX : ip (cx (v3 q) (v3 r)) (cx (v3 p) (v3 q)) = X at *
  generalize hY : ip (cx (v3 r) (v3 p)) (cx (v3 p) (v3 q)) = Y at *
  generalize hZ : ip (cx (v3 p) (v3 q)) (cx (v3 p) (v3 q)) = Z at *
  have pos : ∀ {x y : Int}, w * x = y * Z → 0 < y → 0 < x := fun {x y} e hy => by
    refine Int.not_le.1 fun h => ?_
    have p1 := Int.mul_pos hy N0
    have p2 : w * x ≤ 0 := Int.mul_nonpos_of_nonneg_of_nonpos (by omega) h
    omega
  have X0 := pos e1 hu
  have Y0 := pos e2 hv
  unfold c3
  rw [decide_eq_true_eq, hX, hY, hZ]
  refine ⟨(Int.mul_eq_zero.1 e3).resolve_left (by omega), .inl ⟨X0, Y0, N0⟩, ?_⟩
  rw [ab_pos X0, ab_pos Y0, ab_pos N0]
  refine up_le (z := 0) hw (y := Z * (u * p.d + v * q.d + w * r.d)) ?_ (Int.mul_nonpos_of_nonneg_of_nonpos (by omega) d)
  have : w * (X * p.d + Y * q.d + Z * r.d) = (w * X) * p.d + (w * Y) * q.d + w * Z * r.d := by grind
  rw [this, e1, e2]; grind
theorem c4_of {p q r s : S4} {u v w t : Int} (hT : dt (v3 p) (v3 q) (v3 r) ≠ 0) (hu : 0 < u) (hv : 0 < v) (hw : 0 < w) (ht : 0 < t) (a : u * p.a + v * q.a + w * r.a + t * s.a = 0) (b : u * p.b + v * q.b + w * r.b + t * s.b = 0) (c : u * p.c + v * q.c + w * r.c + t * s.c = 0) (d : u * p.d + v * q.d + w * r.d + t * s.d ≤ 0) : c4 p q r s = true := by
  have e1 : t * dt (v3 q) (v3 r) (v3 s) = u * -dt (v3 p) (v3 q) (v3 r) := by simp only [dt, ip, cx, v3]; grind
  have e2 : t * -dt (v3 p) (v3 r) (v3 s) = v * -dt (v3 p) (v3 q) (v3 r) := by simp only [dt, ip, cx, v3]; grind
  have e3 : t * dt (v3 p) (v3 q) (v3 s) = w * -dt (v3 p) (v3 q) (v3 r) := by simp only [dt, ip, cx, v3]; grind
  unfold c4
  rw [decide_eq_true_eq]
  have hT' : -dt (v3 p) (v3 q) (v3 r) ≠ 0 := by omega
  generalize dt (v3 q) (v3 r) (v3 s) = X at *
  generalize -dt (v3 p) (v3 r) (v3 s) = Y at *
  generalize dt (v3 p) (v3 q) (v3 s) = Z at *
  generalize -dt (v3 p) (v3 q) (v3 r) = T at *
  have key : ∀ {X Y Z T : Int}, 0 < T → t * X = u * T → t * Y = v * T → t * Z = w * T → (0 < X ∧ 0 < Y ∧ 0 < Z) ∧ X * p.d + Y * q.d + Z * r.d + T * s.d ≤ 0 := fun {X Y Z T} hT e1 e2 e3 => by
    have pos : ∀ {x y : Int}, t * x = y * T → 0 < y → 0 < x := fun {x y} e hy => by
      refine Int.not_le.1 fun h => ?_
      have p1 := Int.mul_pos hy hT
      have p2 : t * x ≤ 0 := Int.mul_nonpos_of_nonneg_of_nonpos (by omega) h
      omega
    refine ⟨⟨pos e1 hu, pos e2 hv, pos e3 hw⟩, up_le (z := 0) ht (y := T * (u * p.d + v * q.d + w * r.d + t * s.d)) ?_ (Int.mul_nonpos_of_nonneg_of_nonpos (by omega) d)⟩
    have : t * (X * p.d + Y * q.d + Z * r.d + T * s.d) = (t * X) * p.d + (t * Y) * q.d + (t * Z) * r.d + t * T * s.d := by grind
    rw [this, e1, e2, e3]; grind
  by_cases h : 0 < T
  · obtain ⟨⟨h1, h2, h3⟩, h4⟩ := key h e1 e2 e3
    refine ⟨.inl ⟨h1, h2, h3, h⟩, ?_⟩
    rw [ab_pos h1, ab_pos h2, ab_pos h3, ab_pos h]; exact h4
  · obtain ⟨⟨h1, h2, h3⟩, h4⟩ := key (X := -X) (Y := -Y) (Z := -Z) (T := -T) (by omega) (by grind) (by grind) (by grind)
    refine ⟨.inr ⟨by omega, by omega, by omega, by omega⟩, ?_⟩
    have n : ∀ x : Int, 0 < -x → ab x = -x := fun x hx => by unfold ab; omega
    rw [n X h1, n Y h2, n Z h3, n T (by omega)]; exact h4
theorem dep3 {p q r : S3} (h : dt p q r = 0) : ∃ u v w : Int, (u ≠ 0 ∨ v ≠ 0 ∨ w ≠ 0) ∧ u * p.x + v * q.x + w * r.x = 0 ∧ u * p.y + v * q.y + w * r.y = 0 ∧ u * p.z + v * q.z + w * r.z = 0 := by
  by_cases hN : cx p q = z3
  · obtain ⟨c1, c2, c3⟩ := cx_zero.1 hN
    by_cases hq : ip q q = 0
    · obtain ⟨z1, z2, z3⟩ := ip_zero hq
      exact ⟨0, 1, 0, .inr (.inl (by omega)), by rw [z1]; omega, by rw [z2]; omega, by rw [z3]; omega⟩
    · refine ⟨ip q q, -ip p q, 0, .inl hq, ?_, ?_, ?_⟩ <;> simp only [ip] <;> grind
  · have N0 : ip (cx p q) (cx p q) ≠ 0 := fun h => hN (by
      obtain ⟨h1, h2, h3⟩ := ip_zero h
      exact S3_ext.2 ⟨h1, h2, h3⟩)
    refine ⟨ip (cx q r) (cx p q), ip (cx r p) (cx p q), ip (cx p q) (cx p q), .inr (.inr N0), ?_, ?_, ?_⟩
    all_goals
      simp only [dt, ip, cx] at h ⊢
      grind
theorem dep4 (p q r s : S3) : ∃ u v w t : Int, (u ≠ 0 ∨ v ≠ 0 ∨ w ≠ 0 ∨ t ≠ 0) ∧ u * p.x + v * q.x + w * r.x + t * s.x = 0 ∧ u * p.y + v * q.y + w * r.y + t * s.y = 0 ∧ u * p.z + v * q.z + w * r.z + t * s.z = 0 := by
  by_cases h : dt p q r = 0
  · obtain ⟨u, v, w, hn, h1, h2, h3⟩ := dep3 h
    exact ⟨u, v, w, 0, by omega, by omega, by omega, by omega⟩
  · refine ⟨dt q r s, -dt p r s, dt p q s, -dt p q r, by omega, ?_, ?_, ?_⟩ <;> simp only [dt, ip, cx] <;> grind
set_option linter.unusedSimpArgs false
set_option linter.unusedVariables false
theorem rd_ok {L : List S4} (hL : ∀ p ∈ L, okp p = true) {i : Nat} (h : i < L.length) : okp (rd L i) = true := by
  rw [rd_in h]; exact hL _ (List.getElem_mem _)
def m4 (i j k m : Nat) (a b c d : Int) (x : Nat) : Int := if x = i then a else if x = j then b else if x = k then c else if x = m then d else 0
theorem m4_sum {i j k m : Nat} {a b c d : Int} {l : List Nat} (h : (i :: j :: k :: m :: l).Pairwise (· < ·)) (f : Nat → Int) : ls (fun x => m4 i j k m a b c d x * f x) (i :: j :: k :: m :: l) = a * f i + b * f j + c * f k + d * f m := by
  simp only [List.pairwise_cons, List.mem_cons, forall_eq_or_imp] at h
  obtain ⟨⟨h1, h2, h3, h4⟩, ⟨h5, h6, h7⟩, ⟨h8, h9⟩, h10, _⟩ := h
  have z : ls (fun x => m4 i j k m a b c d x * f x) l = 0 := ls_zero fun x hx => by
    have := h4 x hx; have := h7 x hx; have := h9 x hx; have := h10 x hx
    unfold m4
    rw [if_neg (by omega), if_neg (by omega), if_neg (by omega), if_neg (by omega), Int.zero_mul]
  simp only [ls]
  rw [z]
  have e1 : m4 i j k m a b c d i = a := if_pos rfl
  have e2 : m4 i j k m a b c d j = b := by unfold m4; rw [if_neg (by omega), if_pos rfl]
  have e3 : m4 i j k m a b c d k = c := by unfold m4; rw [if_neg (by omega), if_neg (by omega), if_pos rfl]
  have e4 : m4 i j k m a b c d m = d := by unfold m4; rw [if_neg (by omega), if_neg (by omega), if_neg (by omega), if_pos rfl]
  rw [e1, e2, e3, e4]; omega
def m3 (i j k : Nat) (a b c : Int) (x : Nat) : Int := if x = i then a else if x = j then b else if x = k then c else 0
theorem m3_sum {i j k : Nat} {a b c : Int} {l : List Nat} (h : (i :: j :: k :: l).Pairwise (· < ·)) (f : Nat → Int) : ls (fun x => m3 i j k a b c x * f x) (i :: j :: k :: l) = a * f i + b * f j + c * f k := by
  simp only [List.pairwise_cons, List.mem_cons, forall_eq_or_imp] at h
  obtain ⟨⟨h1, h2, h4⟩, ⟨h5, h7⟩, h9, _⟩ := h
  have z : ls (fun x => m3 i j k a b c x * f x) l = 0 := ls_zero fun x hx => by
    have := h4 x hx; have := h7 x hx; have := h9 x hx
    unfold m3
    rw [if_neg (by omega), if_neg (by omega), if_neg (by omega), Int.zero_mul]
  simp only [ls]
  rw [z]
  have e1 : m3 i j k a b c i = a := if_pos rfl
  have e2 : m3 i j k a b c j = b := by unfold m3; rw [if_neg (by omega), if_pos rfl]
  have e3 : m3 i j k a b c k = c := by unfold m3; rw [if_neg (by omega), if_neg (by omega), if_pos rfl]
  rw [e1, e2, e3]; omega
theorem cert_opn {L : List S4} (hL : ∀ p ∈ L, okp p = true) : ∀ (n : Nat) (l : List Nat) (u : Nat → Int), l.length ≤ n → Cert L l u → opn L = false := by
  intro n
  induction n with
  | zero => intro l u hl h; exact absurd (List.eq_nil_of_length_eq_zero (by omega)) h.ne
  | succ n ih =>
    intro l u hl h
    have fewer : ∀ m : Nat → Int, Nul L l m → (∃ i ∈ l, m i = 0) → (∃ i ∈ l, m i ≠ 0) → opn L = false := fun m h1 h2 h3 => by
      obtain ⟨l', u', hc, hl'⟩ := h.less h1 h2 h3
      exact ih l' u' (by omega) hc
    match l, h with
    | [], h => exact absurd rfl h.ne
    | [i], h =>
      have hi := h.lt i (by simp)
      have ui := h.pos i (by simp)
      have ha := h.nul.a; have hb := h.nul.b; have hc := h.nul.c
      simp only [ls, wA, wB, wC, Int.add_zero] at ha hb hc
      have z := okp_nz (rd_ok hL hi)
      refine absurd ?_ z
      simp only [ip, v3, (Int.mul_eq_zero.1 ha).resolve_left (by omega), (Int.mul_eq_zero.1 hb).resolve_left (by omega), (Int.mul_eq_zero.1 hc).resolve_left (by omega)]; rfl
    | [i, j], h =>
      have hi := h.lt i (by simp)
      have hj := h.lt j (by simp)
      have ui := h.pos i (by simp)
      have uj := h.pos j (by simp)
      have inc := h.inc
      simp at inc
      have ha := h.nul.a; have hb := h.nul.b; have hc := h.nul.c; have hd := h.d
      simp only [ls, wA, wB, wC, wD, Int.add_zero] at ha hb hc hd
      exact clash_2 inc hj (c2_of (rd_ok hL hi) (rd_ok hL hj) ui uj ha hb hc hd)
    | [i, j, k], h =>
      have hi := h.lt i (by simp)
      have hj := h.lt j (by simp)
      have hk := h.lt k (by simp)
      have ui := h.pos i (by simp)
      have uj := h.pos j (by simp)
      have uk := h.pos k (by simp)
      have inc := h.inc
      have inc2 : (i < j ∧ i < k) ∧ j < k := by simpa using inc
      have ha := h.nul.a; have hb := h.nul.b; have hc := h.nul.c; have hd := h.d
      simp only [ls, wA, wB, wC, wD, Int.add_zero, ← Int.add_assoc] at ha hb hc hd
      by_cases hN : cx (v3 (rd L i)) (v3 (rd L j)) = z3
      · obtain ⟨c1, c2, c3⟩ := cx_zero.1 hN
        have nq := okp_nz (rd_ok hL hj)
        refine fewer (m3 i j k (ip (v3 (rd L j)) (v3 (rd L j))) (-ip (v3 (rd L i)) (v3 (rd L j))) 0) ⟨?_, ?_, ?_⟩ ⟨k, by simp, ?_⟩ ⟨i, by simp, ?_⟩
        · unfold wA; rw [m3_sum inc (fun x => (rd L (x : Int)).a)]; simp only [ip, v3] at c1 c2 c3 ⊢; grind
        · unfold wB; rw [m3_sum inc (fun x => (rd L (x : Int)).b)]; simp only [ip, v3] at c1 c2 c3 ⊢; grind
        · unfold wC; rw [m3_sum inc (fun x => (rd L (x : Int)).c)]; simp only [ip, v3] at c1 c2 c3 ⊢; grind
        · unfold m3; rw [if_neg (by omega), if_neg (by omega), if_pos rfl]
        · unfold m3; rw [if_pos rfl]; exact nq
      · exact clash_3 inc2.1.1 inc2.2 hk (c3_of hN ui uj uk (by omega) (by omega) (by omega) (by omega))
    | [i, j, k, m], h =>
      have hi := h.lt i (by simp)
      have hj := h.lt j (by simp)
      have hk := h.lt k (by simp)
      have hm := h.lt m (by simp)
      have ui := h.pos i (by simp)
      have uj := h.pos j (by simp)
      have uk := h.pos k (by simp)
      have um := h.pos m (by simp)
      have inc := h.inc
      have inc2 : (i < j ∧ i < k ∧ i < m) ∧ (j < k ∧ j < m) ∧ k < m := by simpa using inc
      have ha := h.nul.a; have hb := h.nul.b; have hc := h.nul.c; have hd := h.d
      simp only [ls, wA, wB, wC, wD, Int.add_zero, ← Int.add_assoc] at ha hb hc hd
      by_cases hT : dt (v3 (rd L i)) (v3 (rd L j)) (v3 (rd L k)) = 0
      · obtain ⟨x, y, z, hn, e1, e2, e3⟩ := dep3 hT
        refine fewer (m4 i j k m x y z 0) ⟨?_, ?_, ?_⟩ ⟨m, by simp, ?_⟩ ?_
        · unfold wA; rw [m4_sum inc (fun x => (rd L (x : Int)).a)]; simp only [v3] at e1; omega
        · unfold wB; rw [m4_sum inc (fun x => (rd L (x : Int)).b)]; simp only [v3] at e2; omega
        · unfold wC; rw [m4_sum inc (fun x => (rd L (x : Int)).c)]; simp only [v3] at e3; omega
        · unfold m4; rw [if_neg (by omega), if_neg (by omega), if_neg (by omega), if_pos rfl]
        · rcases hn with hn | hn | hn
          · exact ⟨i, by simp, by unfold m4; rw [if_pos rfl]; exact hn⟩
          · exact ⟨j, by simp, by unfold m4; rw [if_neg (by omega), if_pos rfl]; exact hn⟩
          · exact ⟨k, by simp, by unfold m4; rw [if_neg (by omega), if_neg (by omega), if_pos rfl]; exact hn⟩
      · exact clash_4 inc2.1.1 inc2.2.1.1 inc2.2.2 hm (c4_of hT ui uj uk um (by omega) (by omega) (by omega) (by omega))
    | i :: j :: k :: m :: x :: l, h =>
      have inc := h.inc
      have inc2 : i < j ∧ i < k ∧ i < m ∧ i < x ∧ j < k ∧ j < m ∧ j < x ∧ k < m ∧ k < x ∧ m < x := by
        simp only [List.pairwise_cons, List.mem_cons, forall_eq_or_imp] at inc
        obtain ⟨⟨h1, h2, h3, h4, _⟩, ⟨h5, h6, h7, _⟩, ⟨h8, h9, _⟩, ⟨h10, _⟩, _⟩ := inc
        omega
      obtain ⟨u1, u2, u3, u4, hn, e1, e2, e3⟩ := dep4 (v3 (rd L i)) (v3 (rd L j)) (v3 (rd L k)) (v3 (rd L m))
      refine fewer (m4 i j k m u1 u2 u3 u4) ⟨?_, ?_, ?_⟩ ⟨x, by simp, ?_⟩ ?_
      · unfold wA; rw [m4_sum inc (fun x => (rd L (x : Int)).a)]; simp only [v3] at e1; omega
      · unfold wB; rw [m4_sum inc (fun x => (rd L (x : Int)).b)]; simp only [v3] at e2; omega
      · unfold wC; rw [m4_sum inc (fun x => (rd L (x : Int)).c)]; simp only [v3] at e3; omega
      · unfold m4; rw [if_neg (by omega), if_neg (by omega), if_neg (by omega), if_neg (by omega)]
      · rcases hn with hn | hn | hn | hn
        · exact ⟨i, by simp, by unfold m4; rw [if_pos rfl]; exact hn⟩
        · exact ⟨j, by simp, by unfold m4; rw [if_neg (by omega), if_pos rfl]; exact hn⟩
        · exact ⟨k, by simp, by unfold m4; rw [if_neg (by omega), if_neg (by omega), if_pos rfl]; exact hn⟩
        · exact ⟨m, by simp, by unfold m4; rw [if_neg (by omega), if_neg (by omega), if_neg (by omega), if_pos rfl]; exact hn⟩
structure Full (L : List S4) (v : Nat → Int) : Prop where
  nn : ∀ i, i < L.length → 0 ≤ v i
  ne : ∃ i, i < L.length ∧ v i ≠ 0
  nul : Nul L (List.range L.length) v
  d : ls (wD L v) (List.range L.length) ≤ 0
theorem Full.opn {L : List S4} {v : Nat → Int} (h : Full L v) (hL : ∀ p ∈ L, okp p = true) : opn L = false := by
  refine cert_opn hL _ _ v (Nat.le_refl _) (Cert.mk0 (l := List.range L.length) (fun i hi => List.mem_range.1 hi) List.pairwise_lt_range (fun i hi => h.nn i (List.mem_range.1 hi)) ?_ h.nul h.d)
  obtain ⟨i, hi, hv⟩ := h.ne
  exact ⟨i, List.mem_range.2 hi, hv⟩
def sg1 (j : Nat) (x : Int) (i : Nat) : Int := if i = j then x else 0
theorem sg1_sum {j n : Nat} (h : j < n) (x : Int) (f : Nat → Int) : ls (fun i => sg1 j x i * f i) (List.range n) = x * f j := by
  induction n with
  | zero => omega
  | succ n ih =>
    rw [List.range_succ, ls_app]
    simp only [ls, Int.add_zero]
    by_cases c : j = n
    · subst c
      rw [ls_zero fun i hi => by rw [List.mem_range] at hi; unfold sg1; rw [if_neg (by omega), Int.zero_mul]]
      unfold sg1; rw [if_pos rfl]; omega
    · rw [ih (by omega)]
      unfold sg1; rw [if_neg (by omega)]; omega
def sg4 (i j k m : Nat) (a b c d : Int) (x : Nat) : Int := sg1 i a x + sg1 j b x + sg1 k c x + sg1 m d x
theorem sg4_sum {i j k m n : Nat} (hi : i < n) (hj : j < n) (hk : k < n) (hm : m < n) (a b c d : Int) (f : Nat → Int) : ls (fun x => sg4 i j k m a b c d x * f x) (List.range n) = a * f i + b * f j + c * f k + d * f m := by
  have e : ls (fun x => sg4 i j k m a b c d x * f x) (List.range n) = ls (fun x => 1 * (1 * (sg1 i a x * f x) + 1 * (sg1 j b x * f x)) + 1 * (1 * (sg1 k c x * f x) + 1 * (sg1 m d x * f x))) (List.range n) := ls_congr fun x _ => by unfold sg4; grind
  rw [e, ls_lin, ls_lin, ls_lin, sg1_sum hi, sg1_sum hj, sg1_sum hk, sg1_sum hm]; omega
theorem full4 {L : List S4} {i j k m : Nat} (hi : i < L.length) (hj : j < L.length) (hk : k < L.length) (hm : m < L.length) {a b c d : Int} (ha : 0 < a) (hb : 0 ≤ b) (hc : 0 ≤ c) (hd : 0 ≤ d)
    (e1 : a * (rd L i).a + b * (rd L j).a + c * (rd L k).a + d * (rd L m).a = 0) (e2 : a * (rd L i).b + b * (rd L j).b + c * (rd L k).b + d * (rd L m).b = 0) (e3 : a * (rd L i).c + b * (rd L j).c + c * (rd L k).c + d * (rd L m).c = 0) (e4 : a * (rd L i).d + b * (rd L j).d + c * (rd L k).d + d * (rd L m).d ≤ 0) : Full L (sg4 i j k m a b c d) where
  nn := fun x _ => by unfold sg4 sg1; split <;> split <;> split <;> split <;> omega
  ne := ⟨i, hi, by unfold sg4 sg1; rw [if_pos rfl]; split <;> split <;> split <;> omega⟩
  nul := ⟨by unfold wA; rw [sg4_sum hi hj hk hm _ _ _ _ (fun x => (rd L (x : Int)).a)]; exact e1, by unfold wB; rw [sg4_sum hi hj hk hm _ _ _ _ (fun x => (rd L (x : Int)).b)]; exact e2, by unfold wC; rw [sg4_sum hi hj hk hm _ _ _ _ (fun x => (rd L (x : Int)).c)]; exact e3⟩
  d := by unfold wD; rw [sg4_sum hi hj hk hm _ _ _ _ (fun x => (rd L (x : Int)).d)]; exact e4
theorem ab_nn (x : Int) : 0 ≤ ab x := by unfold ab; omega
theorem l1n_pos {p : S4} (h : okp p = true) : 0 < l1n p := by
  have := okp_nz h
  refine Int.not_le.1 fun h0 => this ?_
  unfold l1n ab at h0
  have h1 : p.a = 0 := by omega
  have h2 : p.b = 0 := by omega
  have h3 : p.c = 0 := by omega
  simp only [ip, v3, h1, h2, h3]; rfl
theorem par_neg {p q : S4} (hq : okp q = true) (h : par (v3 p) (v3 q) < 0) : l1n q * p.a + l1n p * q.a = 0 ∧ l1n q * p.b + l1n p * q.b = 0 ∧ l1n q * p.c + l1n p * q.c = 0 := by
  unfold par at h
  split at h
  case isFalse => omega
  rename_i hc
  have hn : ip (v3 p) (v3 q) < 0 := by
    unfold sgn at h
    split at h
    · omega
    · split at h
      · assumption
      · omega
  obtain ⟨e1, e2, e3⟩ := along hc
  have q0 := okp_nz hq
  have qn := ip_nn (v3 q)
  have Z0 : 0 < ip (v3 q) (v3 q) := by omega
  simp only [show (v3 p).x = p.a from rfl, show (v3 p).y = p.b from rfl, show (v3 p).z = p.c from rfl, show (v3 q).x = q.a from rfl, show (v3 q).y = q.b from rfl, show (v3 q).z = q.c from rfl] at e1 e2 e3
  generalize ip (v3 q) (v3 q) = Z at *
  generalize ip (v3 p) (v3 q) = N at *
  have aN : ab N = -N := by unfold ab; omega
  have aZ : ab Z = Z := ab_pos Z0
  have s : ∀ {x y : Int}, N * y = x * Z → -N * ab y = Z * ab x := fun {x y} h => by
    have h1 : ab (N * y) = ab (x * Z) := by rw [h]
    rw [ab_mul, ab_mul, aN, aZ] at h1; rw [h1]; exact Int.mul_comm _ _
  have e : -N * l1n q = Z * l1n p := by
    have := s e1; have := s e2; have := s e3
    unfold l1n; grind
  have fin : ∀ {x y : Int}, N * y = x * Z → l1n q * x + l1n p * y = 0 := fun {x y} h => by
    have : Z * (l1n q * x + l1n p * y) = 0 := by
      have h1 : Z * (l1n q * x + l1n p * y) = l1n q * (x * Z) + (Z * l1n p) * y := by grind
      rw [h1, ← h, ← e]; grind
    exact (Int.mul_eq_zero.1 this).resolve_left (by omega)
  exact ⟨fin e1, fin e2, fin e3⟩
theorem opn_full {L : List S4} (hL : ∀ p ∈ L, okp p = true) (h : opn L = false) : ∃ v, Full L v := by
  rcases clash_of h with ⟨i, j, hij, hj, hc⟩ | ⟨i, j, k, hij, hjk, hk, hc⟩ | ⟨i, j, k, m, hij, hjk, hkm, hm, hc⟩
  · unfold c2 at hc
    rw [decide_eq_true_eq] at hc
    have oj := rd_ok hL hj
    have oi := rd_ok hL (show i < L.length by omega)
    obtain ⟨e1, e2, e3⟩ := par_neg oj hc.1
    have := l1n_pos oi
    exact ⟨_, full4 (i := i) (j := j) (k := j) (m := j) (b := l1n (rd L i)) (c := 0) (d := 0) (by omega) hj hj hj (l1n_pos oj) (by omega) (by omega) (by omega) (by omega) (by omega) (by omega) (by have := hc.2; omega)⟩
  · unfold c3 at hc
    rw [decide_eq_true_eq] at hc
    obtain ⟨h0, hs, hd⟩ := hc
    have hi : i < L.length := by omega
    have hj : j < L.length := by omega
    -- the weights bind
    have E : (ip (cx (v3 (rd L j)) (v3 (rd L k))) (cx (v3 (rd L i)) (v3 (rd L j)))) * (rd L i).a + (ip (cx (v3 (rd L k)) (v3 (rd L i))) (cx (v3 (rd L i)) (v3 (rd L j)))) * (rd L j).a + (ip (cx (v3 (rd L i)) (v3 (rd L j))) (cx (v3 (rd L i)) (v3 (rd L j)))) * (rd L k).a = 0 ∧ (ip (cx (v3 (rd L j)) (v3 (rd L k))) (cx (v3 (rd L i)) (v3 (rd L j)))) * (rd L i).b + (ip (cx (v3 (rd L k)) (v3 (rd L i))) (cx (v3 (rd L i)) (v3 (rd L j)))) * (rd L j).b + (ip (cx (v3 (rd L i)) (v3 (rd L j))) (cx (v3 (rd L i)) (v3 (rd L j)))) * (rd L k).b = 0 ∧ (ip (cx (v3 (rd L j)) (v3 (rd L k))) (cx (v3 (rd L i)) (v3 (rd L j)))) * (rd L i).c + (ip (cx (v3 (rd L k)) (v3 (rd L i))) (cx (v3 (rd L i)) (v3 (rd L j)))) * (rd L j).c + (ip (cx (v3 (rd L i)) (v3 (rd L j))) (cx (v3 (rd L i)) (v3 (rd L j)))) * (rd L k).c = 0 := by
      refine ⟨?_, ?_, ?_⟩
      all_goals
        simp only [dt, ip, cx, v3] at h0 ⊢
        grind
    generalize ip (cx (v3 (rd L j)) (v3 (rd L k))) (cx (v3 (rd L i)) (v3 (rd L j))) = X at *
    generalize ip (cx (v3 (rd L k)) (v3 (rd L i))) (cx (v3 (rd L i)) (v3 (rd L j))) = Y at *
    generalize ip (cx (v3 (rd L i)) (v3 (rd L j))) (cx (v3 (rd L i)) (v3 (rd L j))) = Z at *
    obtain ⟨e1, e2, e3⟩ := E
    rcases hs with ⟨x0, y0, z0⟩ | ⟨x0, y0, z0⟩
    · rw [ab_pos x0, ab_pos y0, ab_pos z0] at hd
      exact ⟨_, full4 (i := i) (j := j) (k := k) (m := k) (d := 0) hi hj hk hk x0 (b := Y) (c := Z) (by omega) (by omega) (by omega) (by omega) (by omega) (by omega) (by omega)⟩
    · have n : ∀ x : Int, x < 0 → ab x = -x := fun x hx => by unfold ab; omega
      rw [n X x0, n Y y0, n Z z0] at hd
      refine ⟨_, full4 (i := i) (j := j) (k := k) (m := k) (d := 0) hi hj hk hk (a := -X) (by omega) (b := -Y) (c := -Z) (by omega) (by omega) (by omega) ?_ ?_ ?_ (by omega)⟩ <;> grind
  · unfold c4 at hc
    rw [decide_eq_true_eq] at hc
    obtain ⟨hs, hd⟩ := hc
    have hi : i < L.length := by omega
    have hj : j < L.length := by omega
    have hk : k < L.length := by omega
    have E : ∀ f : S4 → Int, (f = fun s => s.a) ∨ (f = fun s => s.b) ∨ (f = fun s => s.c) → dt (v3 (rd L j)) (v3 (rd L k)) (v3 (rd L m)) * f (rd L i) + -dt (v3 (rd L i)) (v3 (rd L k)) (v3 (rd L m)) * f (rd L j) + dt (v3 (rd L i)) (v3 (rd L j)) (v3 (rd L m)) * f (rd L k) + -dt (v3 (rd L i)) (v3 (rd L j)) (v3 (rd L k)) * f (rd L m) = 0 := fun f hf => by
      rcases hf with rfl | rfl | rfl <;> simp only [dt, ip, cx, v3] <;> grind
    have e1 := E _ (.inl rfl)
    have e2 := E _ (.inr (.inl rfl))
    have e3 := E _ (.inr (.inr rfl))
    generalize dt (v3 (rd L j)) (v3 (rd L k)) (v3 (rd L m)) = X at *
    generalize -dt (v3 (rd L i)) (v3 (rd L k)) (v3 (rd L m)) = Y at *
    generalize dt (v3 (rd L i)) (v3 (rd L j)) (v3 (rd L m)) = Z at *
    generalize -dt (v3 (rd L i)) (v3 (rd L j)) (v3 (rd L k)) = T at *
    rcases hs with ⟨x0, y0, z0, t0⟩ | ⟨x0, y0, z0, t0⟩
    · rw [ab_pos x0, ab_pos y0, ab_pos z0, ab_pos t0] at hd
      exact ⟨_, full4 (i := i) (j := j) (k := k) (m := m) hi hj hk hm x0 (b := Y) (c := Z) (d := T) (by omega) (by omega) (by omega) e1 e2 e3 hd⟩
    · have n : ∀ x : Int, x < 0 → ab x = -x := fun x hx => by unfold ab; omega
      rw [n X x0, n Y y0, n Z z0, n T t0] at hd
      refine ⟨_, full4 (i := i) (j := j) (k := k) (m := m) hi hj hk hm (a := -X) (by omega) (b := -Y) (c := -Z) (d := -T) (by omega) (by omega) (by omega) ?_ ?_ ?_ hd⟩ <;> grind
theorem opn_iff {L : List S4} (hL : ∀ p ∈ L, okp p = true) : opn L = false ↔ ∃ v, Full L v := ⟨opn_full hL, fun ⟨_, h⟩ => h.opn hL⟩
set_option linter.unusedSimpArgs false
set_option linter.unusedVariables false
theorem rd_snoc_l {L : List S4} {p : S4} {i : Nat} (h : i < L.length) : rd (L ++ [p]) (i : Int) = rd L (i : Int) := by
  simp [rd, List.getD_eq_getElem?_getD, List.getElem?_append_left h]
theorem rd_snoc_r {L : List S4} {p : S4} : rd (L ++ [p]) (L.length : Int) = p := by simp [rd, List.getD_eq_getElem?_getD]
theorem ls_snoc {L : List S4} {p : S4} {v : Nat → Int} (f : S4 → Int) : ls (fun i => v i * f (rd (L ++ [p]) (i : Int))) (List.range (L ++ [p]).length) = ls (fun i => v i * f (rd L (i : Int))) (List.range L.length) + v L.length * f p := by
  rw [List.length_append, List.length_singleton, List.range_succ, ls_app]
  simp only [ls, Int.add_zero]
  rw [rd_snoc_r, ls_congr fun i hi => by rw [rd_snoc_l (List.mem_range.1 hi)]]
structure Part (L : List S4) (v : Nat → Int) (w : Int) (p : S4) : Prop where
  nn : ∀ i, i < L.length → 0 ≤ v i
  wn : 0 ≤ w
  ne : w ≠ 0 ∨ ∃ i, i < L.length ∧ v i ≠ 0
  a : ls (wA L v) (List.range L.length) + w * p.a = 0
  b : ls (wB L v) (List.range L.length) + w * p.b = 0
  c : ls (wC L v) (List.range L.length) + w * p.c = 0
  d : ls (wD L v) (List.range L.length) + w * p.d ≤ 0
theorem Full.part {L : List S4} {p : S4} {v : Nat → Int} (h : Full (L ++ [p]) v) : Part L v (v L.length) p where
  nn := fun i hi => h.nn i (by simp; omega)
  wn := h.nn _ (by simp)
  ne := by
    obtain ⟨i, hi, hv⟩ := h.ne
    by_cases c : i < L.length
    · exact .inr ⟨i, c, hv⟩
    · have : i = L.length := by simp at hi; omega
      subst this; exact .inl hv
  a := by have := h.nul.a; unfold wA at this; rw [ls_snoc (fun s => s.a)] at this; exact this
  b := by have := h.nul.b; unfold wB at this; rw [ls_snoc (fun s => s.b)] at this; exact this
  c := by have := h.nul.c; unfold wC at this; rw [ls_snoc (fun s => s.c)] at this; exact this
  d := by have := h.d; unfold wD at this; rw [ls_snoc (fun s => s.d)] at this; exact this
theorem Part.full {L : List S4} {p : S4} {v : Nat → Int} {w : Int} (h : Part L v w p) (hw : w = 0) : Full L v where
  nn := h.nn
  ne := h.ne.resolve_left (by omega)
  nul := ⟨by have := h.a; rw [hw] at this; omega, by have := h.b; rw [hw] at this; omega, by have := h.c; rw [hw] at this; omega⟩
  d := by have := h.d; rw [hw] at this; omega
theorem all_snoc {L : List S4} {p : S4} (hL : ∀ p ∈ L, okp p = true) (hp : okp p = true) : ∀ q ∈ L ++ [p], okp q = true := fun q hq => by
  rcases List.mem_append.1 hq with hq | hq
  · exact hL q hq
  · rw [List.mem_singleton] at hq; subst hq; exact hp
theorem room_one {L : List S4} {p : S4} (hL : ∀ p ∈ L, okp p = true) (hp : okp p = true) (h : opn L = true) (h1 : opn (L ++ [p]) = false) (h2 : opn (L ++ [flp p]) = false) : False := by
  obtain ⟨v1, f1⟩ := opn_full (all_snoc hL hp) h1
  obtain ⟨v2, f2⟩ := opn_full (all_snoc hL (flp_ok hp)) h2
  have p1 := f1.part; have p2 := f2.part
  generalize v1 L.length = x at p1
  generalize v2 L.length = y at p2
  have no : ∀ v, ¬ Full L v := fun v hv => by have := hv.opn hL; rw [h] at this; cases this
  have x0 : 0 < x := by
    have := p1.wn
    have : x ≠ 0 := fun e => no _ (p1.full e)
    omega
  have y0 : 0 < y := by
    have := p2.wn
    have : y ≠ 0 := fun e => no _ (p2.full e)
    omega
  refine no (fun i => y * v1 i + x * v2 i) ⟨fun i hi => ?_, ?_, ⟨?_, ?_, ?_⟩, ?_⟩
  · have := Int.mul_nonneg (Int.le_of_lt y0) (p1.nn i hi)
    have := Int.mul_nonneg (Int.le_of_lt x0) (p2.nn i hi)
    omega
  · by_cases e : ∃ i, i < L.length ∧ v1 i ≠ 0
    · obtain ⟨i, hi, hv⟩ := e
      refine ⟨i, hi, ?_⟩
      have := p1.nn i hi
      have := Int.mul_pos y0 (show 0 < v1 i by omega)
      have := Int.mul_nonneg (Int.le_of_lt x0) (p2.nn i hi)
      omega
    · exfalso
      have z : ∀ f : S4 → Int, ls (fun i => v1 i * f (rd L (i : Int))) (List.range L.length) = 0 := fun f => ls_zero fun i hi => by
        have : v1 i = 0 := Decidable.byContradiction fun c => e ⟨i, List.mem_range.1 hi, c⟩
        rw [this, Int.zero_mul]
      have a := p1.a; have b := p1.b; have c := p1.c
      unfold wA at a; unfold wB at b; unfold wC at c
      rw [z fun s => s.a] at a; rw [z fun s => s.b] at b; rw [z fun s => s.c] at c
      refine okp_nz hp ?_
      simp only [ip, v3, (Int.mul_eq_zero.1 (show x * p.a = 0 by omega)).resolve_left (by omega), (Int.mul_eq_zero.1 (show x * p.b = 0 by omega)).resolve_left (by omega), (Int.mul_eq_zero.1 (show x * p.c = 0 by omega)).resolve_left (by omega)]; rfl
  · have a1 := p1.a; have a2 := p2.a
    unfold wA at a1 a2 ⊢
    rw [ls_congr (g := fun i => y * (v1 i * (rd L (i : Int)).a) + x * (v2 i * (rd L (i : Int)).a)) fun i _ => by grind, ls_lin]
    simp only [flp] at a2; grind
  · have a1 := p1.b; have a2 := p2.b
    unfold wB at a1 a2 ⊢
    rw [ls_congr (g := fun i => y * (v1 i * (rd L (i : Int)).b) + x * (v2 i * (rd L (i : Int)).b)) fun i _ => by grind, ls_lin]
    simp only [flp] at a2; grind
  · have a1 := p1.c; have a2 := p2.c
    unfold wC at a1 a2 ⊢
    rw [ls_congr (g := fun i => y * (v1 i * (rd L (i : Int)).c) + x * (v2 i * (rd L (i : Int)).c)) fun i _ => by grind, ls_lin]
    simp only [flp] at a2; grind
  · have a1 := p1.d; have a2 := p2.d
    rw [wD_lin]
    simp only [flp] at a2
    generalize ls (wD L v1) (List.range L.length) = s at *
    generalize ls (wD L v2) (List.range L.length) = t at *
    have q1 := Int.mul_nonneg (Int.le_of_lt y0) (show 0 ≤ -(s + x * p.d) by omega)
    have q2 := Int.mul_nonneg (Int.le_of_lt x0) (show 0 ≤ -(t + y * -p.d) by omega)
    have e : y * -(s + x * p.d) + x * -(t + y * -p.d) = -(y * s + x * t) := by grind
    omega
theorem sv_sum (L : List S4) (v : Nat → Int) (s : S4) : ∀ l : List Nat, ls (fun i => v i * sv (rd L (i : Int)) s) l = ls (wA L v) l * s.a + ls (wB L v) l * s.b + ls (wC L v) l * s.c + ls (wD L v) l * s.d
  | [] => by simp [ls]
  | i :: l => by simp only [ls]; rw [sv_sum L v s l]; unfold sv wA wB wC wD; grind
theorem point_opn {L : List S4} (hL : ∀ p ∈ L, okp p = true) {s : S4} (hs : 0 < s.d) (h : ∀ p ∈ L, 0 < sv p s) : opn L = true := by
  cases ho : opn L with
  | true => rfl
  | false =>
    exfalso
    obtain ⟨v, f⟩ := opn_full hL ho
    have hsv : ∀ i, i < L.length → 0 < sv (rd L (i : Nat)) s := fun i hi => by rw [rd_in hi]; exact h _ (List.getElem_mem hi)
    have p1 : 0 < ls (fun i => v i * sv (rd L (i : Int)) s) (List.range L.length) := by
      refine ls_pos (fun i hi => ?_) ?_
      · exact Int.mul_nonneg (f.nn i (List.mem_range.1 hi)) (Int.le_of_lt (hsv i (List.mem_range.1 hi)))
      · obtain ⟨i, hi, hv⟩ := f.ne
        have := f.nn i hi
        exact ⟨i, List.mem_range.2 hi, Int.mul_pos (by omega) (hsv i hi)⟩
    rw [sv_sum, f.nul.a, f.nul.b, f.nul.c] at p1
    have := Int.mul_nonneg (show 0 ≤ -ls (wD L v) (List.range L.length) by have := f.d; omega) (Int.le_of_lt hs)
    rw [Int.neg_mul] at this
    omega
theorem sd_sv {p s : S4} (hp : okp p = true) (hs : spk s = true) : sd p s = sgn (sv p s) := by
  obtain ⟨⟨h1, h2, h3⟩, h4⟩ := okp_bd4 hp
  simp only [v3] at h1 h2 h3
  unfold spk at hs
  rw [Bool.and_eq_true, decide_eq_true_eq] at hs
  obtain ⟨⟨s1, s2, s3, s4⟩, _⟩ := hs
  have m1 := mul_bd h1 s2; have m2 := mul_bd h2 s3; have m3 := mul_bd h3 s4
  have m4 := mul_bd (X := 500) (Y := 1000000000) h4 (show -1000000000 ≤ s.d ∧ s.d ≤ 1000000000 by omega)
  unfold sd
  congr 1
  simp only [W_add_l, W_add_r]
  exact W_id (by omega) (by omega)
def sideV (p s : S4) : Int := if okp p = true ∧ spk s = true then sd p s else 0
theorem spotS_step {L : List Nm} {acc : List Int} {i G : Nat} {x y : Int} {b8 : S4} {v : spec_SpotOf.B7} (hy : 0 < y) (hi : i < 4) (hL : L.length = 4) (e : rd L (i : Int) = nm x) (hx : x.natAbs ≤ 1000000000) (hG : 0 < G) (hG2 : G < 1000000000000) (ha : acc.length ≤ 4)
    (h : Lv (fun k m => spec_SpotOf.l7 k m y L ((i + 1 : Nat) : Int) b8 ⟨false, dg G⟩ (acc ++ [pv x G])) v) : Lv (fun k m => spec_SpotOf.l7 k m y L (i : Int) b8 ⟨false, dg G⟩ acc) v := by
  obtain ⟨q, e1, q1, q2, q3⟩ := div_dg (x := x.natAbs) (n := G) (by omega) hG2 hG
  have hle : x.natAbs / G ≤ 1000000000 := Nat.le_trans (Nat.div_le_self _ _) hx
  have e2 := l1Num_ev (neg := decide (x < 0)) q1 (by omega)
  rw [numV, q3, Int.toNat_natCast] at e2
  have e3 := small_ev (neg := decide (x < 0) && decide (((x.natAbs / G : Nat) : Int) ≠ 0)) (n := x.natAbs / G) (by omega) (fun h e => by rw [Bool.and_eq_true] at h; exact of_decide_eq_true h.2 (by rw [e]; rfl))
  rw [pv_sg] at e3
  have f1 : (i : Int) < 4 := by omega
  have f2 : (i : Int) < (L.length : Int) := by omega
  have f0 : (0 : Int) ≤ (i : Int) := by omega
  have w : W ((i : Int) + 1) = ((i + 1 : Nat) : Int) := by rw [W_id (by omega) (by omega)]; omega
  have f3 : lt47 (acc.length + ([pv x G] : List Int).length) = true := lt47_of (by rw [List.length_singleton]; omega)
  have c : -1000000000 ≤ pv x G ∧ pv x G ≤ 1000000000 := by
    have := pv_abs x G
    omega
  refine Lv.step (g := fun k m => spec_SpotOf.s7 k (spec_SpotOf.l7 k m) y L (i : Int) b8 ⟨false, dg G⟩ acc) ?_ (fun _ _ => rfl)
  unfold spec_SpotOf.s7
  have nb : (!(decide (x < 0) == decide (y < 0))) = decide (x < 0) := by
    rw [decide_eq_false (show ¬ y < 0 by omega)]; cases decide (x < 0) <;> rfl
  simp only [decide_eq_true_eq, if_pos f1, if_pos f0, if_pos f2, e, nm, w, nb]
  refine Lv.bind e1 ?_
  refine Lv.bind e2 ?_
  refine Lv.bind e3 ?_
  simp only [l1In_f, Option.bind_some, Bool.not_true, Bool.false_eq_true, if_false, decide_eq_true c, f3, if_true]
  exact h
def spotV (a b c d : Int) : S4 := ⟨pv a (g4 a b c d), pv b (g4 a b c d), pv c (g4 a b c d), pv d (g4 a b c d)⟩
theorem SpotOf_ev {a b c d : Int} (ha : a.natAbs ≤ 1000000000) (hb : b.natAbs ≤ 1000000000) (hc : c.natAbs ≤ 1000000000) (hd : 0 < d) (hd2 : d.natAbs ≤ 1000000000) : Ev (fun k => spec_SpotOf.f k a b c d) (spotV a b c d, true, ()) := by
  have q1 := gcd_lt (x := 0) (b := 1000000000000) (by omega) (show a.natAbs < 1000000000000 by omega)
  have q2 := gcd_lt q1 (show b.natAbs < 1000000000000 by omega)
  have q3 := gcd_lt q2 (show c.natAbs < 1000000000000 by omega)
  have q4 : g4 a b c d < 1000000000000 := gcd_lt q3 (by omega)
  have qp : 0 < g4 a b c d := by
    refine Nat.pos_of_ne_zero (fun e => ?_)
    have e1 := Nat.eq_zero_of_gcd_eq_zero_right e
    omega
  have eg := NumGcd_ev (a := a) (b := b) (c := c) (d := d) (by omega) (by omega) (by omega) (by omega)
  unfold spotV
  generalize g4 a b c d = G at *
  have loop : Lv (fun k m => spec_SpotOf.l7 k m d [nm a, nm b, nm c, nm d] ((0 : Nat) : Int) ⟨0, 0, 0, 0⟩ ⟨false, dg G⟩ []) (.inr (((), (), ()), (⟨0, 0, 0, 0⟩, [pv a G, pv b G, pv c G, pv d G], ()))) := by
    refine spotS_step hd (i := 0) (by omega) rfl rfl ha qp q4 (by simp) ?_
    refine spotS_step hd (i := 1) (by omega) rfl rfl hb qp q4 (by simp) ?_
    refine spotS_step hd (i := 2) (by omega) rfl rfl hc qp q4 (by simp) ?_
    refine spotS_step hd (i := 3) (by omega) rfl rfl hd2 qp q4 (by simp) ?_
    refine Lv.step (g := fun k m => spec_SpotOf.s7 k (spec_SpotOf.l7 k m) d [nm a, nm b, nm c, nm d] ((4 : Nat) : Int) ⟨0, 0, 0, 0⟩ ⟨false, dg G⟩ [pv a G, pv b G, pv c G, pv d G]) ?_ (fun _ _ => rfl)
    refine .now fun k m => ?_
    simp only [spec_SpotOf.s7, decide_eq_true_eq]
    rw [if_neg (by omega)]
  have dz : ¬ ((d == 0) = true) := by rw [beq_iff_eq]; omega
  simp only [spec_SpotOf.f, if_neg dz]
  refine Ev.bind (Of_ev (by omega)) ?_
  refine Ev.bind (Of_ev (by omega)) ?_
  refine Ev.bind (Of_ev (by omega)) ?_
  refine Ev.bind (Of_ev (by omega)) ?_
  refine Ev.bind eg ?_
  exact Ev.bind loop.ev (.now fun k => rfl)
theorem drawn_spot {m : Int} (hm : 0 < m ∧ m ≤ 100) {x y z w : Int} {h : Int} (hh : 0 ≤ h ∧ h ≤ 100) (hx : 0 ≤ x ∧ x ≤ 255) (hy : 0 ≤ y ∧ y ≤ 255) (hz : 0 ≤ z ∧ z ≤ 255) (hw : 0 ≤ w ∧ w ≤ 255) :
    Ex (fun k => spec_SpotOf.f k (W ((x.tmod m) - h)) (W ((y.tmod m) - h)) (W ((z.tmod m) - h)) (W (1 + (w.tmod 2)))) (fun _ => True) := by
  have a1 := tmod_bd hx.1 hm.1; have a2 := tmod_bd hy.1 hm.1; have a3 := tmod_bd hz.1 hm.1; have a4 := tmod_bd hw.1 (show (0 : Int) < 2 by omega)
  rw [W_id (by omega) (by omega), W_id (by omega) (by omega), W_id (by omega) (by omega), W_id (by omega) (by omega)]
  exact (SpotOf_ev (by omega) (by omega) (by omega) (by omega) (by omega)).ex trivial
end Go.Proofs.YtalkkenkeilmpaaGreat.Q
