/- Cells that are bounded: no way goes on. -/
import Derived.Test.YtalkkenkeilmpaaGreatZ5
namespace Go.Proofs.YtalkkenkeilmpaaGreat.Q
open Go Go.RowKit Go.Proofs Go.Proofs.YtalkkenkeilmpaaGreat.Ev Go.Proofs.YtalkkenkeilmpaaGreat.G
set_option linter.unusedSimpArgs false
set_option linter.unusedVariables false
open Rk (ng wy ip_ng ng_ng ng_z cx_swap cx_self cx_trans bp bI bddV rkV rkV_is RankIs)

def ad3 (x : Int) (s : S3) (y : Int) (t : S3) : S3 := ⟨x * s.x + y * t.x, x * s.y + y * t.y, x * s.z + y * t.z⟩
theorem ip_ad3 (p : S3) (x : Int) (s : S3) (y : Int) (t : S3) : ip p (ad3 x s y t) = x * ip p s + y * ip p t := by simp only [ip, ad3]; grind
theorem nz3 {p : S3} (h : p ≠ z3) : p.x ≠ 0 ∨ p.y ≠ 0 ∨ p.z ≠ 0 := by
  refine Classical.byContradiction fun hc => h ?_
  rw [S3_ext]; simp only [z3]; omega
theorem ip_par {p q u : S3} (hp : p ≠ z3) (h : cx p q = z3) (hu : ip p u = 0) : ip q u = 0 := by
  rw [cx_zero] at h
  obtain ⟨h1, h2, h3⟩ := h
  simp only [ip] at hu ⊢
  have ex : p.x * (q.x * u.x + q.y * u.y + q.z * u.z) = q.x * (p.x * u.x + p.y * u.y + p.z * u.z) := by grind
  have ey : p.y * (q.x * u.x + q.y * u.y + q.z * u.z) = q.y * (p.x * u.x + p.y * u.y + p.z * u.z) := by grind
  have ez : p.z * (q.x * u.x + q.y * u.y + q.z * u.z) = q.z * (p.x * u.x + p.y * u.y + p.z * u.z) := by grind
  rw [hu] at ex ey ez
  rcases nz3 hp with h | h | h
  · exact (Int.mul_eq_zero.1 (by omega : p.x * _ = 0)).resolve_left h
  · exact (Int.mul_eq_zero.1 (by omega : p.y * _ = 0)).resolve_left h
  · exact (Int.mul_eq_zero.1 (by omega : p.z * _ = 0)).resolve_left h
/-- normals of which no three are independent leave a way on all of them. -/
theorem ker3 {T : List S3} (h : ∀ p ∈ T, ∀ q ∈ T, ∀ r ∈ T, dt p q r = 0) : ∃ u : S3, u ≠ z3 ∧ ∀ p ∈ T, ip p u = 0 := by
  by_cases c2 : ∃ p ∈ T, ∃ q ∈ T, cx p q ≠ z3
  · obtain ⟨p, hp, q, hq, hc⟩ := c2
    refine ⟨cx p q, hc, fun r hr => ?_⟩
    have := h p hp q hq r hr
    simp only [dt, ip, cx] at this ⊢
    grind
  · by_cases c1 : ∃ p ∈ T, p ≠ z3
    · obtain ⟨p, hp, hn⟩ := c1
      have par : ∀ q ∈ T, cx p q = z3 := fun q hq => Classical.byContradiction fun hc => c2 ⟨p, hp, q, hq, hc⟩
      by_cases e : p.x = 0 ∧ p.y = 0
      · refine ⟨⟨1, 0, 0⟩, by simp [z3], fun q hq => ip_par hn (par q hq) ?_⟩
        simp only [ip]; omega
      · refine ⟨⟨-p.y, p.x, 0⟩, ?_, fun q hq => ip_par hn (par q hq) ?_⟩
        · rw [ne_eq, S3_ext]; simp only [z3]; omega
        · simp only [ip]; grind
    · refine ⟨⟨1, 0, 0⟩, by simp [z3], fun q hq => ?_⟩
      have : q = z3 := Classical.byContradiction fun hc => c1 ⟨q, hq, hc⟩
      subst this
      simp [ip, z3]
theorem ip_zero3 {p q r u : S3} (h : dt p q r ≠ 0) (h1 : ip p u = 0) (h2 : ip q u = 0) (h3 : ip r u = 0) : u = z3 := by
  have ex : dt p q r * u.x = (cx q r).x * ip p u + (cx r p).x * ip q u + (cx p q).x * ip r u := by simp only [dt, ip, cx]; grind
  have ey : dt p q r * u.y = (cx q r).y * ip p u + (cx r p).y * ip q u + (cx p q).y * ip r u := by simp only [dt, ip, cx]; grind
  have ez : dt p q r * u.z = (cx q r).z * ip p u + (cx r p).z * ip q u + (cx p q).z * ip r u := by simp only [dt, ip, cx]; grind
  rw [h1, h2, h3] at ex ey ez
  rw [S3_ext]
  simp only [z3]
  refine ⟨(Int.mul_eq_zero.1 (by omega : dt p q r * u.x = 0)).resolve_left h, (Int.mul_eq_zero.1 (by omega : dt p q r * u.y = 0)).resolve_left h, (Int.mul_eq_zero.1 (by omega : dt p q r * u.z = 0)).resolve_left h⟩
theorem wy_iff {v : S3} {L : List S4} : wy v L = true ↔ ∀ p ∈ L, 0 ≤ ip (v3 p) v := by
  unfold wy
  rw [List.all_eq_true]
  simp only [decide_eq_true_eq]
theorem sq_pos {v : S3} (h : v ≠ z3) : 0 < ip v v := by
  have hm : ∀ x : Int, 0 ≤ x * x := fun x => by
    rcases Int.le_total 0 x with c | c
    · exact Int.mul_nonneg c c
    · have := Int.mul_nonneg (show 0 ≤ -x by omega) (show 0 ≤ -x by omega); rw [Int.neg_mul_neg] at this; exact this
  have hp : ∀ x : Int, x ≠ 0 → 0 < x * x := fun x hx => by
    have := hm x
    have : x * x ≠ 0 := fun e => by rcases Int.mul_eq_zero.1 e with e | e <;> exact hx e
    omega
  have h1 := hm v.x; have h2 := hm v.y; have h3 := hm v.z
  simp only [ip]
  rcases nz3 h with h | h | h <;> have := hp _ h <;> omega
/-- a way on two planes that cross goes as their cross tells. -/
theorem way_two {L : List S4} {v : S3} {p q : S4} (hv : v ≠ z3) (hw : ∀ r ∈ L, 0 ≤ ip (v3 r) v) (hc : cx (v3 p) (v3 q) ≠ z3) (tp : ip (v3 p) v = 0) (tq : ip (v3 q) v = 0) : wy (cx (v3 p) (v3 q)) L = true ∨ wy (ng (cx (v3 p) (v3 q))) L = true := by
  generalize hW : cx (v3 p) (v3 q) = w at hc ⊢
  -- |w|^2 v = (v.w) w
  have e : ∀ n : S3, ip w w * ip n v = ip v w * ip n w := fun n => by
    subst hW
    have k : ∀ P Q V N : S3, ip (cx P Q) (cx P Q) * ip N V - ip V (cx P Q) * ip N (cx P Q) = ip P V * (ip Q Q * ip P N - ip P Q * ip Q N) + ip Q V * (ip P P * ip Q N - ip P Q * ip P N) := fun P Q V N => by simp only [ip, cx]; grind
    have := k (v3 p) (v3 q) v n
    rw [tp, tq, Int.zero_mul, Int.zero_mul] at this
    omega
  have wp := sq_pos hc
  have nz : ip v w ≠ 0 := fun h0 => by
    have h1 := e v
    rw [h0, Int.zero_mul] at h1
    have := Int.mul_pos wp (sq_pos hv)
    omega
  have nn : ∀ r ∈ L, 0 ≤ ip v w * ip (v3 r) w := fun r hr => by
    rw [← e]; exact Int.mul_nonneg (Int.le_of_lt wp) (hw r hr)
  rcases Int.lt_or_gt_of_ne nz with c | c
  · right
    rw [wy_iff]
    intro r hr
    rw [ip_ng]
    refine Int.not_lt.1 fun hc => ?_
    have := Int.mul_pos (show 0 < -ip v w by omega) (show 0 < ip (v3 r) w by omega)
    rw [Int.neg_mul] at this
    have := nn r hr; omega
  · left
    rw [wy_iff]
    intro r hr
    refine Int.not_lt.1 fun hc => ?_
    have := Int.mul_pos c (show 0 < -ip (v3 r) w by omega)
    rw [Int.mul_neg] at this
    have := nn r hr; omega
/-- going on from a way, up to one more plane. -/
theorem way_move {L : List S4} {v u : S3} (hw : ∀ r ∈ L, 0 ≤ ip (v3 r) v) (hc : cx u v ≠ z3) (hn : ∃ n ∈ L, ip (v3 n) u ≠ 0) :
    ∃ v' : S3, v' ≠ z3 ∧ (∀ r ∈ L, 0 ≤ ip (v3 r) v') ∧ (∃ n ∈ L, ip (v3 n) u ≠ 0 ∧ ip (v3 n) v' = 0) ∧ ∀ r ∈ L, ip (v3 r) v = 0 → ip (v3 r) u = 0 → ip (v3 r) v' = 0 := by
  have go : ∀ u : S3, cx u v ≠ z3 → (∃ n ∈ L, ip (v3 n) u < 0) → ∃ v' : S3, v' ≠ z3 ∧ (∀ r ∈ L, 0 ≤ ip (v3 r) v') ∧ (∃ n ∈ L, ip (v3 n) u ≠ 0 ∧ ip (v3 n) v' = 0) ∧ ∀ r ∈ L, ip (v3 r) v = 0 → ip (v3 r) u = 0 → ip (v3 r) v' = 0 := fun u hc hn => by
    obtain ⟨n, hn, g0, g1⟩ := first_of (fun r => ip (v3 r) v) (fun r => ip (v3 r) u) L hw hn
    refine ⟨ad3 (-ip (v3 n) u) v (ip (v3 n) v) u, fun h0 => hc ?_, fun r hr => by rw [ip_ad3]; exact g1 r hr, ⟨n, hn, by omega, by rw [ip_ad3]; grind⟩, fun r _ h1 h2 => by rw [ip_ad3, h1, h2]; omega⟩
    -- (-g) (u x v) = u x v'
    rw [S3_ext] at h0
    simp only [ad3, z3] at h0
    obtain ⟨a, b, c⟩ := h0
    generalize ip (v3 n) v = f at *
    have g2 : ip (v3 n) u ≠ 0 := by omega
    generalize ip (v3 n) u = g at *
    have k : ∀ {x y : Int}, g * x = g * y → x = y := fun h => Int.eq_of_mul_eq_mul_left g2 h
    rw [cx_zero]
    exact ⟨k (by grind), k (by grind), k (by grind)⟩
  obtain ⟨n, hn, h0⟩ := hn
  by_cases c : ip (v3 n) u < 0
  · exact go u hc ⟨n, hn, c⟩
  · obtain ⟨v', h1, h2, ⟨m, hm, h3, h4⟩, h5⟩ := go (ng u) (fun h => hc (by rw [cx_zero] at h ⊢; simp only [ng] at h; grind)) ⟨n, hn, by rw [ip_ng]; omega⟩
    exact ⟨v', h1, h2, ⟨m, hm, by rw [ip_ng] at h3; omega, h4⟩, fun r hr a b => h5 r hr a (by rw [ip_ng]; omega)⟩
/-- a cell with a way that goes on, whose normals have rank 3, has two planes along whose cross it goes. -/
theorem way_pair {L : List S4} (hL : ∀ p ∈ L, okp p = true) (h3 : ∃ p ∈ L, ∃ q ∈ L, ∃ r ∈ L, dt (v3 p) (v3 q) (v3 r) ≠ 0) {v : S3} (hv : v ≠ z3) (hw : ∀ r ∈ L, 0 ≤ ip (v3 r) v) :
    ∃ p ∈ L, ∃ q ∈ L, cx (v3 p) (v3 q) ≠ z3 ∧ (wy (cx (v3 p) (v3 q)) L = true ∨ wy (ng (cx (v3 p) (v3 q))) L = true) := by
  have some_n : ∀ u : S3, u ≠ z3 → ∃ n ∈ L, ip (v3 n) u ≠ 0 := fun u hu => by
    obtain ⟨p, hp, q, hq, r, hr, hd⟩ := h3
    refine Classical.byContradiction fun hc => hu (ip_zero3 hd ?_ ?_ ?_)
    · exact Classical.byContradiction fun h => hc ⟨p, hp, h⟩
    · exact Classical.byContradiction fun h => hc ⟨q, hq, h⟩
    · exact Classical.byContradiction fun h => hc ⟨r, hr, h⟩
  -- with one plane on the way
  have one : ∀ v : S3, v ≠ z3 → (∀ r ∈ L, 0 ≤ ip (v3 r) v) → (∃ p ∈ L, ip (v3 p) v = 0) → ∃ p ∈ L, ∃ q ∈ L, cx (v3 p) (v3 q) ≠ z3 ∧ (wy (cx (v3 p) (v3 q)) L = true ∨ wy (ng (cx (v3 p) (v3 q))) L = true) := fun v hv hw ⟨p, hp, tp⟩ => by
    by_cases c : ∃ q ∈ L, ip (v3 q) v = 0 ∧ cx (v3 p) (v3 q) ≠ z3
    · obtain ⟨q, hq, tq, hc⟩ := c
      exact ⟨p, hp, q, hq, hc, way_two hv hw hc tp tq⟩
    · have pz := Rk.v3_nz (hL p hp)
      have hu : ∀ P V : S3, P ≠ z3 → V ≠ z3 → ip P V = 0 → cx P V ≠ z3 := fun P V h1 h2 h3 h4 => by
        have k : ip (cx P V) (cx P V) = ip P P * ip V V - ip P V * ip P V := by simp only [ip, cx]; grind
        rw [h4, h3] at k
        have := Int.mul_pos (sq_pos h1) (sq_pos h2)
        simp [ip, z3] at k
        simp only [ip] at this
        omega
      have huv : cx (cx (v3 p) v) v ≠ z3 := by
        refine hu _ _ (hu _ _ pz hv tp) hv ?_
        simp only [ip, cx]; grind
      have pu : ip (v3 p) (cx (v3 p) v) = 0 := by simp only [ip, cx]; grind
      obtain ⟨v', a1, a2, ⟨n, hn, a3, a4⟩, a5⟩ := way_move hw huv (some_n _ (hu _ _ pz hv tp))
      have hc : cx (v3 p) (v3 n) ≠ z3 := fun h => a3 (ip_par pz h pu)
      exact ⟨p, hp, n, hn, hc, way_two a1 a2 hc (a5 p hp tp pu) a4⟩
  by_cases c : ∃ p ∈ L, ip (v3 p) v = 0
  · exact one v hv hw c
  · -- some u that is not along v
    obtain ⟨u, hu⟩ : ∃ u : S3, cx u v ≠ z3 := by
      by_cases e : v.x = 0 ∧ v.y = 0
      · refine ⟨⟨1, 0, 0⟩, fun h => hv ?_⟩
        rw [cx_zero] at h; rw [S3_ext]; simp only [z3] at *; omega
      · refine ⟨⟨0, 0, 1⟩, fun h => ?_⟩
        rw [cx_zero] at h; simp only at h; omega
    have unz : u ≠ z3 := fun h => hu (by rw [h]; simp [cx, z3])
    obtain ⟨v', a1, a2, ⟨n, hn, _, a4⟩, _⟩ := way_move hw hu (some_n _ unz)
    exact one v' a1 a2 ⟨n, hn, a4⟩
theorem bp_of {L : List S4} {p q : S4} (hp : p ∈ L) (hq : q ∈ L) (hc : cx (v3 p) (v3 q) ≠ z3) (hw : wy (cx (v3 p) (v3 q)) L = true ∨ wy (ng (cx (v3 p) (v3 q))) L = true) : ∃ i j : Nat, i < j ∧ j < L.length ∧ bI L i j = true := by
  obtain ⟨i, hi, rfl⟩ := List.getElem_of_mem hp
  obtain ⟨j, hj, rfl⟩ := List.getElem_of_mem hq
  have hb : bI L i j = true := by
    unfold bI bp
    rw [rd_in hi, rd_in hj, Bool.and_eq_true, Bool.or_eq_true, decide_eq_true_eq]
    exact ⟨hc, hw⟩
  rcases Nat.lt_trichotomy i j with h | h | h
  · exact ⟨i, j, h, hj, hb⟩
  · subst h; exact absurd (cx_self _) hc
  · refine ⟨j, i, h, hi, ?_⟩
    unfold bI at hb ⊢
    rw [Rk.bp_swap]; exact hb
/-- bounded: no way but none. -/
theorem bdd_iff {L : List S4} (hL : ∀ p ∈ L, okp p = true) : bddV L = true ↔ ∀ v : S3, (∀ p ∈ L, 0 ≤ ip (v3 p) v) → v = z3 := by
  have hr := rkV_is hL
  have any : anyF (fun i => anyF (bI L i) (L.length - (i + 1)) (i + 1)) L.length 0 = true ↔ ∃ i j : Nat, i < j ∧ j < L.length ∧ bI L i j = true := by
    rw [anyF_iff]
    constructor
    · rintro ⟨i, _, h1, h2⟩
      obtain ⟨j, h3, h4, h5⟩ := anyF_iff.1 h2
      exact ⟨i, j, by omega, by omega, h5⟩
    · rintro ⟨i, j, h1, h2, h3⟩
      exact ⟨i, by omega, by omega, anyF_iff.2 ⟨j, by omega, by omega, h3⟩⟩
  constructor
  · intro h v hv
    unfold bddV at h
    split at h
    · cases h
    · rename_i h3
      rw [Bool.not_eq_true'] at h
      refine Classical.byContradiction fun hn => ?_
      rcases hr with ⟨e, p, hp, q, hq, r, hr, hd⟩ | ⟨e, _⟩ | ⟨e, _⟩ | ⟨e, _⟩
      · obtain ⟨P, hP, rfl⟩ := List.mem_map.1 hp
        obtain ⟨Q, hQ, rfl⟩ := List.mem_map.1 hq
        obtain ⟨R, hR, rfl⟩ := List.mem_map.1 hr
        obtain ⟨a, ha, b, hb, hc, hw⟩ := way_pair hL ⟨P, hP, Q, hQ, R, hR, hd⟩ hn hv
        have := any.2 (bp_of ha hb hc hw)
        rw [this] at h; cases h
      all_goals omega
  · intro h
    have full : rkV L = 3 := by
      rcases hr with ⟨e, _⟩ | ⟨e, hd, _⟩ | ⟨e, hd, _⟩ | ⟨e, hd⟩
      · exact e
      all_goals
        exfalso
        obtain ⟨u, hu, h0⟩ := ker3 (T := L.map v3) (by
          intro p hp q hq r hr
          first
          | exact hd p hp q hq r hr
          | exact Rk.dt_of_cx (hd p hp q hq) r
          | (rw [hd p hp]; simp [dt, ip, cx, z3]))
        exact hu (h u fun p hp => by rw [h0 _ (List.mem_map_of_mem hp)]; omega)
    unfold bddV
    rw [if_neg (by omega), Bool.not_eq_true', ← Bool.not_eq_true, any]
    rintro ⟨i, j, h1, h2, h3⟩
    unfold bI bp at h3
    rw [Bool.and_eq_true, Bool.or_eq_true, decide_eq_true_eq, wy_iff, wy_iff] at h3
    rcases h3 with ⟨hc, hw | hw⟩
    · exact hc (h _ hw)
    · exact hc (ng_z.1 (h _ hw))
end Go.Proofs.YtalkkenkeilmpaaGreat.Q
