/- Lists of planes without room: just those with weights under which the normals come to nothing and the Ds to nothing or less. -/
import Derived.Test.YtlkcpldohlemcaaN5
namespace Go.Proofs.Ytlkcpldohlemcaa.Q
open Go Go.RowKit Go.Proofs Go.Proofs.Ytlkcpldohlemcaa.Ev Go.Proofs.Ytlkcpldohlemcaa.G
set_option linter.unusedSimpArgs false
set_option linter.unusedVariables false

/-- sums over a row of places -/
def ls (f : Nat → Int) : List Nat → Int
  | [] => 0
  | i :: l => f i + ls f l
theorem ls_app (f : Nat → Int) : ∀ a b : List Nat, ls f (a ++ b) = ls f a + ls f b
  | [], b => by simp [ls]
  | i :: a, b => by simp [ls, ls_app f a b]; omega
theorem ls_zero {f : Nat → Int} : ∀ {l : List Nat}, (∀ i ∈ l, f i = 0) → ls f l = 0
  | [], _ => rfl
  | i :: l, h => by simp only [ls]; rw [h i (List.mem_cons_self ..), ls_zero fun j hj => h j (List.mem_cons_of_mem _ hj)]; rfl
theorem ls_congr {f g : Nat → Int} : ∀ {l : List Nat}, (∀ i ∈ l, f i = g i) → ls f l = ls g l
  | [], _ => rfl
  | i :: l, h => by simp only [ls]; rw [h i (List.mem_cons_self ..), ls_congr fun j hj => h j (List.mem_cons_of_mem _ hj)]
theorem ls_lin (x y : Int) (f g : Nat → Int) : ∀ l : List Nat, ls (fun i => x * f i + y * g i) l = x * ls f l + y * ls g l
  | [] => by simp [ls]
  | i :: l => by simp only [ls]; rw [ls_lin x y f g l]; grind
theorem ls_filter {v f : Nat → Int} : ∀ l : List Nat, ls (fun i => v i * f i) (l.filter fun i => decide (v i ≠ 0)) = ls (fun i => v i * f i) l
  | [] => rfl
  | i :: l => by
    by_cases h : v i = 0
    · rw [List.filter_cons_of_neg (by simp [h])]; simp only [ls]; rw [h, Int.zero_mul, Int.zero_add]; exact ls_filter l
    · rw [List.filter_cons_of_pos (by simp [h])]; simp only [ls]; rw [ls_filter l]
theorem ls_nn {f : Nat → Int} : ∀ {l : List Nat}, (∀ i ∈ l, 0 ≤ f i) → 0 ≤ ls f l
  | [], _ => Int.le_refl _
  | i :: l, h => by
    have := h i (List.mem_cons_self ..)
    have := ls_nn fun j hj => h j (List.mem_cons_of_mem _ hj)
    simp only [ls]; omega
theorem ls_pos {f : Nat → Int} : ∀ {l : List Nat}, (∀ i ∈ l, 0 ≤ f i) → (∃ i ∈ l, 0 < f i) → 0 < ls f l
  | [], _, ⟨i, hi, _⟩ => by cases hi
  | i :: l, h, ⟨j, hj, hp⟩ => by
    have h1 := h i (List.mem_cons_self ..)
    have h2 : ∀ j ∈ l, 0 ≤ f j := fun j hj => h j (List.mem_cons_of_mem _ hj)
    simp only [ls]
    rcases List.mem_cons.1 hj with rfl | hj
    · have := ls_nn h2; omega
    · have := ls_pos h2 ⟨j, hj, hp⟩; omega

abbrev wA (L : List S4) (u : Nat → Int) (i : Nat) : Int := u i * (rd L (i : Int)).a
abbrev wB (L : List S4) (u : Nat → Int) (i : Nat) : Int := u i * (rd L (i : Int)).b
abbrev wC (L : List S4) (u : Nat → Int) (i : Nat) : Int := u i * (rd L (i : Int)).c
abbrev wD (L : List S4) (u : Nat → Int) (i : Nat) : Int := u i * (rd L (i : Int)).d
/-- the normals come to nothing under weights -/
structure Nul (L : List S4) (l : List Nat) (u : Nat → Int) : Prop where
  a : ls (wA L u) l = 0
  b : ls (wB L u) l = 0
  c : ls (wC L u) l = 0
/-- weights above 0, on some places -/
structure Cert (L : List S4) (l : List Nat) (u : Nat → Int) : Prop where
  lt : ∀ i ∈ l, i < L.length
  inc : l.Pairwise (· < ·)
  pos : ∀ i ∈ l, 0 < u i
  ne : l ≠ []
  nul : Nul L l u
  d : ls (wD L u) l ≤ 0
theorem Nul.lin {L : List S4} {l : List Nat} {u v : Nat → Int} (h : Nul L l u) (h2 : Nul L l v) (x y : Int) : Nul L l (fun i => x * u i + y * v i) := by
  have e : ∀ f : Nat → Int, ls (fun i => (x * u i + y * v i) * f i) l = x * ls (fun i => u i * f i) l + y * ls (fun i => v i * f i) l := fun f => by
    rw [← ls_lin]; exact ls_congr fun i _ => by grind
  have ha := h.a; have hb := h.b; have hc := h.c
  have ka := h2.a; have kb := h2.b; have kc := h2.c
  unfold wA at ha ka; unfold wB at hb kb; unfold wC at hc kc
  refine ⟨?_, ?_, ?_⟩
  · show ls (fun i => (x * u i + y * v i) * (rd L (i : Int)).a) l = 0; rw [e, ha, ka]; omega
  · show ls (fun i => (x * u i + y * v i) * (rd L (i : Int)).b) l = 0; rw [e, hb, kb]; omega
  · show ls (fun i => (x * u i + y * v i) * (rd L (i : Int)).c) l = 0; rw [e, hc, kc]; omega
theorem wD_lin {L : List S4} {l : List Nat} {u v : Nat → Int} (x y : Int) : ls (wD L (fun i => x * u i + y * v i)) l = x * ls (wD L u) l + y * ls (wD L v) l := by
  rw [← ls_lin]; exact ls_congr fun i _ => by unfold wD; grind
/-- weights not below 0: those above stay. -/
theorem Cert.mk0 {L : List S4} {l : List Nat} {v : Nat → Int} (lt : ∀ i ∈ l, i < L.length) (inc : l.Pairwise (· < ·)) (nn : ∀ i ∈ l, 0 ≤ v i) (ne : ∃ i ∈ l, v i ≠ 0) (nul : Nul L l v) (d : ls (wD L v) l ≤ 0) : Cert L (l.filter fun i => decide (v i ≠ 0)) v where
  lt := fun i hi => lt i (List.mem_filter.1 hi).1
  inc := inc.filter _
  pos := fun i hi => by
    obtain ⟨h1, h2⟩ := List.mem_filter.1 hi
    have := nn i h1
    have : v i ≠ 0 := by simpa using h2
    omega
  ne := fun h => by
    obtain ⟨i, hi, hv⟩ := ne
    have : i ∈ l.filter fun i => decide (v i ≠ 0) := List.mem_filter.2 ⟨hi, by simp [hv]⟩
    rw [h] at this; cases this
  nul := ⟨by unfold wA; rw [ls_filter]; exact nul.a, by unfold wB; rw [ls_filter]; exact nul.b, by unfold wC; rw [ls_filter]; exact nul.c⟩
  d := by unfold wD; rw [ls_filter]; exact d
theorem filter_lt {l : List Nat} {v : Nat → Int} {j : Nat} (hj : j ∈ l) (hv : v j = 0) : (l.filter fun i => decide (v i ≠ 0)).length < l.length := by
  have h1 := List.length_filter_le (fun i => decide (v i ≠ 0)) l
  refine Nat.lt_of_le_of_ne h1 fun h => ?_
  have := List.length_filter_eq_length_iff.1 h j hj
  simp [hv] at this
/-- the least of ratios -/
theorem ratio {u m : Nat → Int} : ∀ {l : List Nat}, (∀ i ∈ l, 0 < u i) → (∃ j ∈ l, m j < 0) → ∃ j ∈ l, m j < 0 ∧ ∀ i ∈ l, m i < 0 → u j * (-m i) ≤ u i * (-m j)
  | [], _, ⟨j, hj, _⟩ => by cases hj
  | k :: l, hu, ⟨j, hj, hm⟩ => by
    have hu' : ∀ i ∈ l, 0 < u i := fun i hi => hu i (List.mem_cons_of_mem _ hi)
    by_cases he : ∃ j ∈ l, m j < 0
    · obtain ⟨x, hx, mx, hr⟩ := ratio hu' he
      by_cases mk : m k < 0
      · by_cases c : u x * (-m k) ≤ u k * (-m x)
        · refine ⟨x, List.mem_cons_of_mem _ hx, mx, fun i hi mi => ?_⟩
          rcases List.mem_cons.1 hi with rfl | hi
          · exact c
          · exact hr i hi mi
        · refine ⟨k, List.mem_cons_self .., mk, fun i hi mi => ?_⟩
          rcases List.mem_cons.1 hi with rfl | hi
          · exact Int.le_refl _
          · have h1 := hr i hi mi
            have c' : u k * (-m x) ≤ u x * (-m k) := by omega
            have ux := hu' x hx
            -- u k * -mi <= u i * -mk, after a multiplication by -mx
            have p1 : u k * (-m x) * (-m i) ≤ u x * (-m k) * (-m i) := Int.mul_le_mul_of_nonneg_right c' (by omega)
            have p2 : u x * (-m i) * (-m k) ≤ u i * (-m x) * (-m k) := Int.mul_le_mul_of_nonneg_right h1 (by omega)
            have p3 : (u k * (-m i)) * (-m x) ≤ (u i * (-m k)) * (-m x) := by
              have e1 : (u k * (-m i)) * (-m x) = u k * (-m x) * (-m i) := by grind
              have e2 : (u i * (-m k)) * (-m x) = u i * (-m x) * (-m k) := by grind
              have e3 : u x * (-m k) * (-m i) = u x * (-m i) * (-m k) := by grind
              omega
            exact Int.le_of_mul_le_mul_right p3 (by omega)
      · refine ⟨x, List.mem_cons_of_mem _ hx, mx, fun i hi mi => ?_⟩
        rcases List.mem_cons.1 hi with rfl | hi
        · exact absurd mi mk
        · exact hr i hi mi
    · rcases List.mem_cons.1 hj with rfl | hj
      · refine ⟨j, List.mem_cons_self .., hm, fun i hi mi => ?_⟩
        rcases List.mem_cons.1 hi with rfl | hi
        · exact Int.le_refl _
        · exact absurd ⟨i, hi, mi⟩ he
      · exact absurd ⟨j, hj, hm⟩ he
theorem Cert.less0 {L : List S4} {l : List Nat} {u m : Nat → Int} (h : Cert L l u) (hm : Nul L l m) (hd : ls (wD L m) l ≤ 0) (h0 : ∃ i ∈ l, m i = 0) (h1 : ∃ i ∈ l, m i ≠ 0) : ∃ l' u', Cert L l' u' ∧ l'.length < l.length := by
  by_cases hn : ∃ j ∈ l, m j < 0
  · obtain ⟨j, hj, mj, hr⟩ := ratio h.pos hn
    obtain ⟨z, hz, mz⟩ := h0
    refine ⟨_, fun i => (-m j) * u i + u j * m i, Cert.mk0 h.lt h.inc (fun i hi => ?_) ⟨z, hz, ?_⟩ (h.nul.lin hm _ _) ?_, filter_lt hj ?_⟩
    · have ui := h.pos i hi
      have uj := h.pos j hj
      by_cases mi : m i < 0
      · have := hr i hi mi
        have e1 : u j * (-m i) = -(u j * m i) := by grind
        have e2 : u i * (-m j) = (-m j) * u i := by grind
        show 0 ≤ (-m j) * u i + u j * m i
        omega
      · have p1 : 0 < (-m j) * u i := Int.mul_pos (by omega) ui
        have p2 : 0 ≤ u j * m i := Int.mul_nonneg (by omega) (by omega)
        show 0 ≤ (-m j) * u i + u j * m i
        omega
    · have p1 : 0 < (-m j) * u z := Int.mul_pos (by omega) (h.pos z hz)
      show (-m j) * u z + u j * m z ≠ 0
      rw [mz, Int.mul_zero]; omega
    · rw [wD_lin]
      have p1 : 0 ≤ (-m j) * (-(ls (wD L u) l)) := Int.mul_nonneg (by omega) (by have := h.d; omega)
      have p2 : 0 ≤ u j * (-(ls (wD L m) l)) := Int.mul_nonneg (by have := h.pos j hj; omega) (by omega)
      have e1 : (-m j) * (-(ls (wD L u) l)) = -((-m j) * ls (wD L u) l) := by grind
      have e2 : u j * (-(ls (wD L m) l)) = -(u j * ls (wD L m) l) := by grind
      omega
    · show (-m j) * u j + u j * m j = 0
      grind
  · obtain ⟨z, hz, mz⟩ := h0
    exact ⟨_, m, Cert.mk0 h.lt h.inc (fun i hi => by have : ¬ m i < 0 := fun c => hn ⟨i, hi, c⟩; omega) h1 hm hd, filter_lt hz mz⟩
/-- where the normals are bound in another way, too, that leaves one out: fewer will do. -/
theorem Cert.less {L : List S4} {l : List Nat} {u m : Nat → Int} (h : Cert L l u) (hm : Nul L l m) (h0 : ∃ i ∈ l, m i = 0) (h1 : ∃ i ∈ l, m i ≠ 0) : ∃ l' u', Cert L l' u' ∧ l'.length < l.length := by
  by_cases hd : ls (wD L m) l ≤ 0
  · exact h.less0 hm hd h0 h1
  · have hm2 : Nul L l (fun i => (-1) * m i + 0 * m i) := hm.lin hm (-1) 0
    refine h.less0 hm2 (by rw [wD_lin]; omega) ?_ ?_
    · obtain ⟨i, hi, e⟩ := h0; exact ⟨i, hi, by show (-1) * m i + 0 * m i = 0; omega⟩
    · obtain ⟨i, hi, e⟩ := h1; exact ⟨i, hi, by show (-1) * m i + 0 * m i ≠ 0; omega⟩
end Go.Proofs.Ytlkcpldohlemcaa.Q
