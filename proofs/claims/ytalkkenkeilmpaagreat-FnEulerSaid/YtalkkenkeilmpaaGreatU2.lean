/- A corner from near: the planes that meet there, each with the next one around it; ways down and up. -/
import Derived.Test.YtalkkenkeilmpaaGreatF5
namespace Go.Proofs.YtalkkenkeilmpaaGreat.Q
open Go Go.RowKit Go.Proofs Go.Proofs.YtalkkenkeilmpaaGreat.Ev Go.Proofs.YtalkkenkeilmpaaGreat.G
set_option linter.unusedSimpArgs false
set_option linter.unusedVariables false

/-- one that stands ahead of all others, under an order. -/
theorem min_of {α : Type} (R : α → α → Prop) : ∀ N : List α, N ≠ [] → (∀ a ∈ N, ∀ b ∈ N, a ≠ b → R a b ∨ R b a) → (∀ a ∈ N, ∀ b ∈ N, ∀ c ∈ N, R a b → R b c → R a c) → ∃ m ∈ N, ∀ b ∈ N, b ≠ m → R m b
  | [], h, _, _ => absurd rfl h
  | [a], _, _, _ => ⟨a, List.mem_cons_self, fun b hb ne => absurd (List.mem_singleton.1 hb) ne⟩
  | a :: c :: N, _, tot, tr => by
    have up : ∀ x, x ∈ c :: N → x ∈ a :: c :: N := fun x hx => List.mem_cons_of_mem _ hx
    obtain ⟨m, hm, h⟩ := min_of R (c :: N) (by simp) (fun x hx y hy => tot x (up x hx) y (up y hy)) (fun x hx y hy z hz => tr x (up x hx) y (up y hy) z (up z hz))
    by_cases e : a = m
    · exact ⟨m, up m hm, fun b hb ne => by
        rcases List.mem_cons.1 hb with rfl | hb
        · exact absurd e ne
        · exact h b hb ne⟩
    · rcases tot a List.mem_cons_self m (up m hm) e with r | r
      · refine ⟨a, List.mem_cons_self, fun b hb ne => ?_⟩
        rcases List.mem_cons.1 hb with rfl | hb
        · exact absurd rfl ne
        · by_cases e2 : b = m
          · rw [e2]; exact r
          · exact tr a List.mem_cons_self m (up m hm) b (up b hb) r (h b hb e2)
      · exact ⟨m, up m hm, fun b hb ne => by
          rcases List.mem_cons.1 hb with rfl | hb
          · exact r
          · exact h b hb ne⟩

/-- the planes at a corner: each is a face, there are three that cross, some way is on the sides of all. -/
structure Loc (T : List S4) : Prop where
  fac : ∀ p ∈ T, ∃ y : S3, ip (v3 p) y = 0 ∧ ∀ q ∈ T, q ≠ p → 0 < ip (v3 q) y
  rk : ∃ p ∈ T, ∃ q ∈ T, ∃ r ∈ T, dt (v3 p) (v3 q) (v3 r) ≠ 0
  mid : ∃ u : S3, ∀ p ∈ T, 0 < ip (v3 p) u
theorem opp_of {v w A B : Int} (hA : 0 < A) (hB : 0 < B) (h : v * A + w * B = 0) : (0 < v → w < 0) ∧ (v < 0 → 0 < w) ∧ (v = 0 → w = 0) := by
  refine ⟨fun hv => Int.not_le.1 fun hc => ?_, fun hv => Int.not_le.1 fun hc => ?_, fun hv => ?_⟩
  · have := Int.mul_pos hv hA; have := Int.mul_nonneg hc (Int.le_of_lt hB); omega
  · have := Int.mul_pos (show 0 < -v by omega) hA; have := Int.mul_nonneg (show 0 ≤ -w by omega) (Int.le_of_lt hB)
    rw [Int.neg_mul] at *; omega
  · subst hv
    exact (Int.mul_eq_zero.1 (by omega : w * B = 0)).resolve_right (by omega)
namespace Loc
variable {T : List S4} (h : Loc T)
include h
theorem dt3 {p q r : S4} (hp : p ∈ T) (hq : q ∈ T) (hr : r ∈ T) (pq : p ≠ q) (pr : p ≠ r) (qr : q ≠ r) : dt (v3 p) (v3 q) (v3 r) ≠ 0 := by
  intro h0
  obtain ⟨u, v, w, ne, ex, ey, ez⟩ := dep3 h0
  have lin : ∀ y : S3, u * ip (v3 p) y + v * ip (v3 q) y + w * ip (v3 r) y = 0 := fun y => by
    have : u * ip (v3 p) y + v * ip (v3 q) y + w * ip (v3 r) y = (u * (v3 p).x + v * (v3 q).x + w * (v3 r).x) * y.x + (u * (v3 p).y + v * (v3 q).y + w * (v3 r).y) * y.y + (u * (v3 p).z + v * (v3 q).z + w * (v3 r).z) * y.z := by simp only [ip]; grind
    rw [this, ex, ey, ez]; omega
  obtain ⟨y1, a1, b1⟩ := h.fac p hp
  obtain ⟨y2, a2, b2⟩ := h.fac q hq
  obtain ⟨y3, a3, b3⟩ := h.fac r hr
  have l1 := lin y1; have l2 := lin y2; have l3 := lin y3
  rw [a1] at l1; rw [a2] at l2; rw [a3] at l3
  have o1 := opp_of (v := v) (w := w) (b1 q hq (Ne.symm pq)) (b1 r hr (Ne.symm pr)) (by omega)
  have o2 := opp_of (v := u) (w := w) (b2 p hp pq) (b2 r hr (Ne.symm qr)) (by omega)
  have o3 := opp_of (v := u) (w := v) (b3 p hp pr) (b3 q hq qr) (by omega)
  omega
theorem third (p q : S4) : ∃ b ∈ T, b ≠ p ∧ b ≠ q := by
  obtain ⟨a, ha, b, hb, c, hc, hd⟩ := h.rk
  have ab : a ≠ b := fun e => hd (by subst e; exact Rk.dt_of_cx (Rk.cx_self _) _)
  have bc : b ≠ c := fun e => hd (by subst e; exact Rk.dt_self_r _ _)
  have ac : a ≠ c := fun e => hd (by subst e; exact Rk.dt_self_o _ _)
  by_cases a1 : a = p ∨ a = q
  · by_cases b1 : b = p ∨ b = q
    · refine ⟨c, hc, ?_, ?_⟩
      · intro e; subst e; rcases a1 with e | e <;> rcases b1 with e2 | e2 <;> simp_all
      · intro e; subst e; rcases a1 with e | e <;> rcases b1 with e2 | e2 <;> simp_all
    · exact ⟨b, hb, fun e => b1 (.inl e), fun e => b1 (.inr e)⟩
  · exact ⟨a, ha, fun e => a1 (.inl e), fun e => a1 (.inr e)⟩
end Loc
/-- s is the next one behind p. -/
def Sc (T : List S4) (p s : S4) : Prop := s ∈ T ∧ s ≠ p ∧ ∀ b ∈ T, b ≠ p → b ≠ s → 0 < dt (v3 p) (v3 s) (v3 b)
theorem dt_anti (p q r : S3) : dt p r q = -dt p q r := by simp only [dt, ip, cx]; grind
theorem dt_anti2 (p q r : S3) : dt r q p = -dt p q r := by simp only [dt, ip, cx]; grind
theorem dt_cyc (p q r : S3) : dt q r p = dt p q r := by simp only [dt, ip, cx]; grind
theorem dt_cyc2 (p q r : S3) : dt r p q = dt p q r := by simp only [dt, ip, cx]; grind
theorem dt_ip (p q b : S3) : ip b (cx p q) = dt p q b := by simp only [dt, ip, cx]; grind
theorem plk (p a b c y : S3) : ip b y * dt p a c = ip c y * dt p a b + ip a y * dt p b c - ip p y * dt a b c := by simp only [dt, ip, cx]; grind
theorem rec3 (p s t x f : S3) : dt p s t * ip f x = ip t x * ip f (cx p s) + ip s x * ip f (cx t p) + ip p x * ip f (cx s t) := by simp only [dt, ip, cx]; grind
namespace Loc
variable {T : List S4} (h : Loc T)
include h
theorem suc {p : S4} (hp : p ∈ T) : ∃ s, Sc T p s := by
  have mem : ∀ a, a ∈ T.filter (fun a => decide (a ≠ p)) ↔ a ∈ T ∧ a ≠ p := fun a => by rw [List.mem_filter, decide_eq_true_eq]
  obtain ⟨y, y0, y1⟩ := h.fac p hp
  obtain ⟨s, hs, h1⟩ := min_of (fun a b => 0 < dt (v3 p) (v3 a) (v3 b)) (T.filter fun a => decide (a ≠ p)) (by
    obtain ⟨b, hb, ne, _⟩ := h.third p p
    exact List.ne_nil_of_mem ((mem b).2 ⟨hb, ne⟩)) (fun a ha b hb ab => by
    have := h.dt3 hp ((mem a).1 ha).1 ((mem b).1 hb).1 (Ne.symm ((mem a).1 ha).2) (Ne.symm ((mem b).1 hb).2) ab
    rw [dt_anti (v3 p) (v3 a) (v3 b)]; omega) (fun a ha b hb c hc r1 r2 => by
    have k := plk (v3 p) (v3 a) (v3 b) (v3 c) y
    rw [y0] at k
    have pa := y1 a ((mem a).1 ha).1 ((mem a).1 ha).2; have pb := y1 b ((mem b).1 hb).1 ((mem b).1 hb).2; have pc := y1 c ((mem c).1 hc).1 ((mem c).1 hc).2
    have m1 := Int.mul_pos pc r1; have m2 := Int.mul_pos pa r2
    exact Int.pos_of_mul_pos_right (by omega : 0 < ip (v3 b) y * dt (v3 p) (v3 a) (v3 c)) pb)
  exact ⟨s, ((mem s).1 hs).1, ((mem s).1 hs).2, fun b hb bp bs => h1 b ((mem b).2 ⟨hb, bp⟩) bs⟩
theorem pre {p : S4} (hp : p ∈ T) : ∃ t ∈ T, Sc T t p := by
  have mem : ∀ a, a ∈ T.filter (fun a => decide (a ≠ p)) ↔ a ∈ T ∧ a ≠ p := fun a => by rw [List.mem_filter, decide_eq_true_eq]
  obtain ⟨y, y0, y1⟩ := h.fac p hp
  obtain ⟨s, hs, h1⟩ := min_of (fun a b => 0 < dt (v3 p) (v3 b) (v3 a)) (T.filter fun a => decide (a ≠ p)) (by
    obtain ⟨b, hb, ne, _⟩ := h.third p p
    exact List.ne_nil_of_mem ((mem b).2 ⟨hb, ne⟩)) (fun a ha b hb ab => by
    have := h.dt3 hp ((mem a).1 ha).1 ((mem b).1 hb).1 (Ne.symm ((mem a).1 ha).2) (Ne.symm ((mem b).1 hb).2) ab
    rw [dt_anti (v3 p) (v3 a) (v3 b)]; omega) (fun a ha b hb c hc r1 r2 => by
    have k := plk (v3 p) (v3 c) (v3 b) (v3 a) y
    rw [y0] at k
    have pa := y1 a ((mem a).1 ha).1 ((mem a).1 ha).2; have pb := y1 b ((mem b).1 hb).1 ((mem b).1 hb).2; have pc := y1 c ((mem c).1 hc).1 ((mem c).1 hc).2
    have m1 := Int.mul_pos pa r2; have m2 := Int.mul_pos pc r1
    exact Int.pos_of_mul_pos_right (by omega : 0 < ip (v3 b) y * dt (v3 p) (v3 c) (v3 a)) pb)
  refine ⟨s, ((mem s).1 hs).1, hp, Ne.symm ((mem s).1 hs).2, fun b hb bs bp => ?_⟩
  have := h1 b ((mem b).2 ⟨hb, bp⟩) bs
  rw [dt_cyc2 (v3 p) (v3 b) (v3 s)]; exact this
end Loc
theorem Sc.uniq {T : List S4} {p s s' : S4} (h : Sc T p s) (h2 : Sc T p s') : s = s' := Classical.byContradiction fun ne => by
  have a := h.2.2 s' h2.1 h2.2.1 (Ne.symm ne)
  have b := h2.2.2 s h.1 h.2.1 ne
  rw [dt_anti] at b; omega
theorem Sc.uniq2 {T : List S4} {t t' p : S4} (ht : t ∈ T) (ht' : t' ∈ T) (h : Sc T t p) (h2 : Sc T t' p) : t = t' := Classical.byContradiction fun ne => by
  have a := h.2.2 t' ht' (Ne.symm ne) (Ne.symm h2.2.1)
  have b := h2.2.2 t ht ne (Ne.symm h.2.1)
  rw [dt_anti2] at b; omega
/-- the next one and the one before are two. -/
theorem Loc.ne2 {T : List S4} (h : Loc T) {p s t : S4} (h1 : Sc T p s) (h2 : Sc T t p) : s ≠ t := fun e => by
  subst e
  obtain ⟨b, hb, bp, bs⟩ := h.third p s
  have a := h1.2.2 b hb bp bs
  have c := h2.2.2 b hb bs bp
  have e : dt (v3 s) (v3 p) (v3 b) = -dt (v3 p) (v3 s) (v3 b) := by simp only [dt, ip, cx]; grind
  omega
theorem Loc.pst {T : List S4} (h : Loc T) {p s t : S4} (ht : t ∈ T) (h1 : Sc T p s) (h2 : Sc T t p) : 0 < dt (v3 p) (v3 s) (v3 t) :=
  h1.2.2 t ht (Ne.symm h2.2.1) (Ne.symm (h.ne2 h1 h2))
/-- the edge behind p goes down; the edge ahead of it does. -/
def Dn (T : List S4) (f : S3) (p : S4) : Prop := ∃ s, Sc T p s ∧ ip f (cx (v3 p) (v3 s)) < 0
def Bn (T : List S4) (f : S3) (p : S4) : Prop := ∃ t ∈ T, Sc T t p ∧ ip f (cx (v3 t) (v3 p)) < 0
def Gen (T : List S4) (f : S3) : Prop := ∀ p ∈ T, ∀ q ∈ T, p ≠ q → ip f (cx (v3 p) (v3 q)) ≠ 0
theorem Dn.bn {T : List S4} {f : S3} {t p : S4} (ht : t ∈ T) (h : Sc T t p) : Dn T f t ↔ Bn T f p :=
  ⟨fun ⟨s, h1, h2⟩ => by have := h1.uniq h; subst this; exact ⟨t, ht, h, h2⟩, fun ⟨t', ht', h1, h2⟩ => by have := Sc.uniq2 ht ht' h h1; subst this; exact ⟨p, h, h2⟩⟩
theorem Sc.dn {T : List S4} {f : S3} {p s : S4} (h : Sc T p s) : Dn T f p ↔ ip f (cx (v3 p) (v3 s)) < 0 :=
  ⟨fun ⟨s', h1, h2⟩ => by have := h1.uniq h; subst this; exact h2, fun h2 => ⟨s, h, h2⟩⟩
/-- a way on p, between its two edges: both go down, so does it. -/
theorem Loc.face {T : List S4} (h : Loc T) {f x : S3} {p : S4} (hp : p ∈ T) (h1 : Dn T f p) (h2 : Bn T f p) (hx : x ≠ z3) (hk : ∀ b ∈ T, 0 ≤ ip (v3 b) x) (px : ip (v3 p) x = 0) : ip f x < 0 := by
  obtain ⟨s, hs, s0⟩ := h1
  obtain ⟨t, ht, hst, t0⟩ := h2
  have d := h.pst ht hs hst
  have k := rec3 (v3 p) (v3 s) (v3 t) x f
  rw [px] at k
  have xs := hk s hs.1; have xt := hk t ht
  have a1 := Int.mul_nonneg xt (show 0 ≤ -ip f (cx (v3 p) (v3 s)) by omega)
  have a2 := Int.mul_nonneg xs (show 0 ≤ -ip f (cx (v3 t) (v3 p)) by omega)
  rw [Int.mul_neg] at a1 a2
  refine Int.not_le.1 fun hc => ?_
  have a3 := Int.mul_nonneg (Int.le_of_lt d) hc
  have zt : ip (v3 t) x = 0 := by
    refine Classical.byContradiction fun ne => ?_
    have := Int.mul_pos (show 0 < ip (v3 t) x by omega) (show 0 < -ip f (cx (v3 p) (v3 s)) by omega)
    rw [Int.mul_neg] at this; omega
  have zs : ip (v3 s) x = 0 := by
    refine Classical.byContradiction fun ne => ?_
    have := Int.mul_pos (show 0 < ip (v3 s) x by omega) (show 0 < -ip f (cx (v3 t) (v3 p)) by omega)
    rw [Int.mul_neg] at this; omega
  exact hx (ip_zero3 (by omega) px zs zt)
theorem Sc.edge {T : List S4} {p s : S4} (h : Sc T p s) : ∀ b ∈ T, 0 ≤ ip (v3 b) (cx (v3 p) (v3 s)) := fun b hb => by
  rw [dt_ip]
  by_cases e : b = p
  · subst e; rw [Rk.dt_self_o]; omega
  · by_cases e2 : b = s
    · subst e2; rw [Rk.dt_self_r]; omega
    · exact Int.le_of_lt (h.2.2 b hb e e2)
/-- where p's edge behind goes down and the one ahead up, all others stand on one side of the level way on p. -/
theorem Loc.turn {T : List S4} (h : Loc T) {f : S3} (g : Gen T f) {p : S4} (hp : p ∈ T) (h1 : Dn T f p) (h2 : ¬ Bn T f p) : ∀ b ∈ T, b ≠ p → dt f (v3 p) (v3 b) < 0 := by
  obtain ⟨s, hs, s0⟩ := h1
  obtain ⟨t, ht, hst⟩ := h.pre hp
  have t0 : 0 < ip f (cx (v3 t) (v3 p)) := by
    have := g t ht p hp (Ne.symm hst.2.1)
    have : ¬ ip f (cx (v3 t) (v3 p)) < 0 := fun hc => h2 ⟨t, ht, hst, hc⟩
    omega
  have d := h.pst ht hs hst
  have es : dt f (v3 p) (v3 s) = ip f (cx (v3 p) (v3 s)) := rfl
  have et : dt f (v3 p) (v3 t) = -ip f (cx (v3 t) (v3 p)) := by simp only [dt, ip, cx]; grind
  intro b hb bp
  by_cases e : b = s
  · subst e; omega
  · by_cases e2 : b = t
    · subst e2; omega
    · have k : dt (v3 p) (v3 s) (v3 t) * dt f (v3 p) (v3 b) = dt (v3 t) (v3 p) (v3 b) * dt f (v3 p) (v3 s) + dt (v3 p) (v3 s) (v3 b) * dt f (v3 p) (v3 t) := by simp only [dt, ip, cx]; grind
      have m1 := Int.mul_pos (hst.2.2 b hb e2 bp) (show 0 < -dt f (v3 p) (v3 s) by omega)
      have m2 := Int.mul_pos (hs.2.2 b hb bp e) (show 0 < -dt f (v3 p) (v3 t) by omega)
      rw [Int.mul_neg] at m1 m2
      refine Int.not_le.1 fun hc => ?_
      have := Int.mul_nonneg (Int.le_of_lt d) hc
      omega
theorem Loc.turn_one {T : List S4} (h : Loc T) {f : S3} (g : Gen T f) {p q : S4} (hp : p ∈ T) (hq : q ∈ T) (p1 : Dn T f p) (p2 : ¬ Bn T f p) (q1 : Dn T f q) (q2 : ¬ Bn T f q) : p = q := Classical.byContradiction fun ne => by
  have a := h.turn g hp p1 p2 q hq (Ne.symm ne)
  have b := h.turn g hq q1 q2 p hp ne
  rw [dt_anti] at b; omega
theorem Loc.turn_ex {T : List S4} (h : Loc T) {f : S3} (g : Gen T f) (hd : ∃ p ∈ T, Dn T f p) (hu : ∃ p ∈ T, ¬ Dn T f p) : ∃ p ∈ T, Dn T f p ∧ ¬ Bn T f p := by
  obtain ⟨p, hp, s, hs, s0⟩ := hd
  obtain ⟨q, hq, nq⟩ := hu
  obtain ⟨r, hr⟩ := h.suc hq
  have r0 : 0 < ip f (cx (v3 q) (v3 r)) := by
    have := g q hq r hr.1 (Ne.symm hr.2.1)
    have := mt hr.dn.2 nq
    omega
  obtain ⟨u, hu⟩ := h.mid
  -- a level way on the sides of all
  obtain ⟨w, w0, w1⟩ : ∃ w : S3, ip f w = 0 ∧ ∀ b ∈ T, 0 < ip (v3 b) w := by
    rcases Int.lt_trichotomy (ip f u) 0 with c | c | c
    · refine ⟨ad3 (ip f (cx (v3 q) (v3 r))) u (-ip f u) (cx (v3 q) (v3 r)), by rw [ip_ad3]; grind, fun b hb => ?_⟩
      rw [ip_ad3]
      have := Int.mul_pos r0 (hu b hb); have := Int.mul_nonneg (show 0 ≤ -ip f u by omega) (hr.edge b hb); omega
    · exact ⟨u, c, hu⟩
    · refine ⟨ad3 (-ip f (cx (v3 p) (v3 s))) u (ip f u) (cx (v3 p) (v3 s)), by rw [ip_ad3]; grind, fun b hb => ?_⟩
      rw [ip_ad3]
      have := Int.mul_pos (show 0 < -ip f (cx (v3 p) (v3 s)) by omega) (hu b hb); have := Int.mul_nonneg (Int.le_of_lt c) (hs.edge b hb); omega
  obtain ⟨m, hm, h1⟩ := min_of (fun a b => 0 < dt f (v3 b) (v3 a)) T (List.ne_nil_of_mem hp) (fun a ha b hb ab => by
    have : dt f (v3 a) (v3 b) ≠ 0 := g a ha b hb ab
    rw [dt_anti f (v3 a) (v3 b)]; omega) (fun a ha b hb c hc r1 r2 => by
    have k := plk f (v3 c) (v3 b) (v3 a) w
    rw [w0] at k
    have m1 := Int.mul_pos (w1 a ha) r2; have m2 := Int.mul_pos (w1 c hc) r1
    exact Int.pos_of_mul_pos_right (by omega : 0 < ip (v3 b) w * dt f (v3 c) (v3 a)) (w1 b hb))
  refine ⟨m, hm, ?_, ?_⟩
  · obtain ⟨s, hs⟩ := h.suc hm
    refine ⟨s, hs, ?_⟩
    have := h1 s hs.1 hs.2.1
    have e : ip f (cx (v3 m) (v3 s)) = -dt f (v3 s) (v3 m) := by simp only [dt, ip, cx]; grind
    omega
  · rintro ⟨t, ht, hst, t0⟩
    have : 0 < ip f (cx (v3 t) (v3 m)) := h1 t ht (Ne.symm hst.2.1)
    omega
/-- where all edges go down, all ways do. -/
theorem Loc.down {T : List S4} (h : Loc T) {f : S3} (hd : ∀ p ∈ T, Dn T f p) {u : S3} (hu : u ≠ z3) (hk : ∀ b ∈ T, 0 ≤ ip (v3 b) u) : ip f u < 0 := by
  have hb : ∀ p ∈ T, Bn T f p := fun p hp => by
    obtain ⟨t, ht, hst⟩ := h.pre hp
    exact (Dn.bn ht hst).1 (hd t ht)
  refine Int.not_le.1 fun hc => ?_
  obtain ⟨p, hp, q, hq, r, hr, hdt⟩ := h.rk
  obtain ⟨s, hs⟩ := h.suc hp
  obtain ⟨c, hcT, cp, cs⟩ := h.third p s
  have c0 := hs.2.2 c hcT cp cs
  have s0 := (hs.dn (f := f)).1 (hd p hp)
  obtain ⟨n, hn, g0, g1⟩ := first_of (fun b : S4 => ip (v3 b) u) (fun b => -ip (v3 b) (cx (v3 p) (v3 s))) T hk ⟨c, hcT, by
    show -ip (v3 c) (cx (v3 p) (v3 s)) < 0
    rw [dt_ip]; omega⟩
  by_cases z : ip (v3 n) u = 0
  · have := h.face hn (hd n hn) (hb n hn) hu hk z; omega
  · have nu := hk n hn
    -- back along the edge, up to n
    have fx : 0 < ip f (ad3 (ip (v3 n) (cx (v3 p) (v3 s))) u (-ip (v3 n) u) (cx (v3 p) (v3 s))) := by
      rw [ip_ad3]
      have m1 := Int.mul_nonneg (show 0 ≤ ip (v3 n) (cx (v3 p) (v3 s)) by omega) hc
      have m2 := Int.mul_pos (show 0 < ip (v3 n) u by omega) (show 0 < -ip f (cx (v3 p) (v3 s)) by omega)
      rw [Int.mul_neg] at m2
      rw [Int.neg_mul]; omega
    have := h.face hn (hd n hn) (hb n hn) (x := ad3 (ip (v3 n) (cx (v3 p) (v3 s))) u (-ip (v3 n) u) (cx (v3 p) (v3 s))) (fun e => by
      rw [e] at fx; simp [ip, z3] at fx) (fun b hb => by
      have := g1 b hb
      rw [ip_ad3]
      grind) (by rw [ip_ad3]; grind)
    omega
theorem Gen.neg {T : List S4} {f : S3} (g : Gen T f) : Gen T (Rk.ng f) := fun p hp q hq ne => by
  have := g p hp q hq ne
  have e : ip (Rk.ng f) (cx (v3 p) (v3 q)) = -ip f (cx (v3 p) (v3 q)) := by simp only [ip, Rk.ng]; grind
  omega
theorem Loc.dn_neg {T : List S4} (h : Loc T) {f : S3} (g : Gen T f) {p : S4} (hp : p ∈ T) : Dn T (Rk.ng f) p ↔ ¬ Dn T f p := by
  obtain ⟨s, hs⟩ := h.suc hp
  rw [hs.dn, hs.dn]
  have := g p hp s hs.1 (Ne.symm hs.2.1)
  have e : ip (Rk.ng f) (cx (v3 p) (v3 s)) = -ip f (cx (v3 p) (v3 s)) := by simp only [ip, Rk.ng]; grind
  omega
theorem Loc.up {T : List S4} (h : Loc T) {f : S3} (g : Gen T f) (hd : ∀ p ∈ T, ¬ Dn T f p) {u : S3} (hu : u ≠ z3) (hk : ∀ b ∈ T, 0 ≤ ip (v3 b) u) : 0 < ip f u := by
  have := h.down (f := Rk.ng f) (fun p hp => (h.dn_neg g hp).2 (hd p hp)) hu hk
  have e : ip (Rk.ng f) u = -ip f u := by simp only [ip, Rk.ng]; grind
  omega

def smN {α : Type} (g : α → Nat) : List α → Nat
  | [] => 0
  | a :: l => g a + smN g l
theorem smN_add {α : Type} (g h : α → Nat) : ∀ l : List α, smN (fun a => g a + h a) l = smN g l + smN h l
  | [] => rfl
  | a :: l => by simp only [smN, smN_add g h l]; omega
theorem smN_congr {α : Type} {g h : α → Nat} : ∀ {l : List α}, (∀ a ∈ l, g a = h a) → smN g l = smN h l
  | [], _ => rfl
  | a :: l, e => by simp only [smN]; rw [e a List.mem_cons_self, smN_congr fun b hb => e b (List.mem_cons_of_mem _ hb)]
theorem smN_if {α : Type} (P : α → Bool) : ∀ l : List α, smN (fun a => if P a = true then 1 else 0) l = l.countP P
  | [] => rfl
  | a :: l => by simp only [smN, smN_if P l, List.countP_cons]; omega
theorem smN_one {α : Type} : ∀ l : List α, smN (fun _ => 1) l = l.length
  | [] => rfl
  | a :: l => by simp only [smN, smN_one l, List.length_cons]; omega
theorem smN_zero {α : Type} : ∀ l : List α, smN (fun _ => 0) l = 0
  | [] => rfl
  | a :: l => by simp only [smN, smN_zero l]
theorem smN_swap {α β : Type} (R : α → β → Bool) (B : List β) : ∀ A : List α, smN (fun a => B.countP (R a)) A = smN (fun b => A.countP fun a => R a b) B
  | [] => by simp only [smN, List.countP_nil]; exact (smN_zero B).symm
  | a :: A => by
    simp only [smN, List.countP_cons]
    rw [smN_add, smN_if, smN_swap R B A]
    omega
theorem count_one {α : Type} {P : α → Bool} : ∀ {l : List α}, l.Nodup → (∃ a ∈ l, P a = true) → (∀ a ∈ l, ∀ b ∈ l, P a = true → P b = true → a = b) → l.countP P = 1
  | [], _, h, _ => by obtain ⟨a, ha, _⟩ := h; cases ha
  | a :: l, nd, h, u => by
    rw [List.nodup_cons] at nd
    rw [List.countP_cons]
    by_cases c : P a = true
    · rw [if_pos c, List.countP_eq_zero.2 fun b hb hc => ?_]
      have := u a List.mem_cons_self b (List.mem_cons_of_mem _ hb) c hc
      subst this
      exact nd.1 hb
    · rw [if_neg c, count_one nd.2 ?_ fun a ha b hb => u a (List.mem_cons_of_mem _ ha) b (List.mem_cons_of_mem _ hb)]
      obtain ⟨b, hb, hP⟩ := h
      rcases List.mem_cons.1 hb with rfl | hb
      · exact absurd hP c
      · exact ⟨b, hb, hP⟩
theorem count_split {α : Type} (P Q : α → Bool) : ∀ l : List α, l.countP P = l.countP (fun a => P a && Q a) + l.countP (fun a => P a && !Q a)
  | [] => rfl
  | a :: l => by
    simp only [List.countP_cons, count_split P Q l]
    cases P a <;> cases Q a <;> simp <;> omega
theorem count_congr {α : Type} {P Q : α → Bool} {l : List α} (h : ∀ a ∈ l, P a = Q a) : l.countP P = l.countP Q := List.countP_congr fun a ha => by rw [h a ha]
/-- what is matched one to one is of one number. -/
theorem count_match {α β : Type} {A : List α} {B : List β} (R : α → β → Bool) {P : α → Bool} {Q : β → Bool} (nA : A.Nodup) (nB : B.Nodup) (hPQ : ∀ a ∈ A, ∀ b ∈ B, R a b = true → P a = true ∧ Q b = true)
    (hA : ∀ a ∈ A, P a = true → ∃ b ∈ B, R a b = true) (uA : ∀ a ∈ A, ∀ b ∈ B, ∀ b' ∈ B, R a b = true → R a b' = true → b = b')
    (hB : ∀ b ∈ B, Q b = true → ∃ a ∈ A, R a b = true) (uB : ∀ b ∈ B, ∀ a ∈ A, ∀ a' ∈ A, R a b = true → R a' b = true → a = a') : A.countP P = B.countP Q := by
  have e := smN_swap R B A
  rw [← smN_if P, ← smN_if Q]
  rw [smN_congr (h := fun a => if P a = true then 1 else 0), smN_congr (g := fun b => A.countP fun a => R a b) (h := fun b => if Q b = true then 1 else 0)] at e
  · exact e
  · intro b hb
    by_cases c : Q b = true
    · rw [if_pos c]
      exact count_one nA (hB b hb c) fun a ha a' ha' => uB b hb a ha a' ha'
    · rw [if_neg c]
      exact List.countP_eq_zero.2 fun a ha hr => c (hPQ a ha b hb hr).2
  · intro a ha
    by_cases c : P a = true
    · rw [if_pos c]
      exact count_one nB (hA a ha c) fun b hb b' hb' => uA a ha b hb b' hb'
    · rw [if_neg c]
      exact List.countP_eq_zero.2 fun b hb hr => c (hPQ a ha b hb hr).1
/-- pairs of a row, each once -/
def pc {α : Type} (e : α → α → Bool) : List α → Nat
  | [] => 0
  | a :: l => l.countP (e a) + pc e l
theorem pc_sum {α : Type} [DecidableEq α] {e lt : α → α → Bool} : ∀ {V : List α}, V.Nodup → (∀ a ∈ V, ∀ b ∈ V, e a b = e b a) → (∀ a ∈ V, ∀ b ∈ V, a ≠ b → e a b = true → lt a b = !lt b a) →
    pc e V = smN (fun v => V.countP fun w => (decide (w ≠ v) && e v w) && lt w v) V
  | [], _, _, _ => rfl
  | x :: l, nd, sy, tot => by
    rw [List.nodup_cons] at nd
    have up : ∀ a, a ∈ l → a ∈ x :: l := fun a ha => List.mem_cons_of_mem _ ha
    have x0 : x ∈ x :: l := List.mem_cons_self
    have ne : ∀ a ∈ l, a ≠ x := fun a ha e => nd.1 (e ▸ ha)
    have ih := pc_sum (e := e) (lt := lt) nd.2 (fun a ha b hb => sy a (up a ha) b (up b hb)) (fun a ha b hb => tot a (up a ha) b (up b hb))
    simp only [pc, smN, List.countP_cons]
    rw [smN_add, ih, smN_if]
    have e1 : (if (decide (x ≠ x) && e x x && lt x x) = true then 1 else 0) = 0 := by simp
    have e2 : l.countP (fun w => decide (w ≠ x) && e x w && lt w x) = l.countP fun w => e x w && lt w x := count_congr fun a ha => by simp [ne a ha]
    have e3 : l.countP (fun v => decide (x ≠ v) && e v x && lt x v) = l.countP fun v => e x v && !lt v x := count_congr fun a ha => by
      rw [decide_eq_true (Ne.symm (ne a ha)), Bool.true_and, sy a (up a ha) x x0]
      cases c : e x a
      · rfl
      · rw [tot x x0 a (up a ha) (Ne.symm (ne a ha)) c]
    rw [e1, e2, e3, count_split (e x) (fun w => lt w x) l]
    omega
theorem three_of {α : Type} [DecidableEq α] {l : List α} {a b c : α} (ha : a ∈ l) (hb : b ∈ l) (hc : c ∈ l) (ab : a ≠ b) (ac : a ≠ c) (bc : b ≠ c) : 3 ≤ l.length := by
  have h1 := List.length_erase_of_mem ha
  have hb' : b ∈ l.erase a := (List.mem_erase_of_ne (Ne.symm ab)).2 hb
  have hc' : c ∈ l.erase a := (List.mem_erase_of_ne (Ne.symm ac)).2 hc
  have h2 := List.length_erase_of_mem hb'
  have hc2 : c ∈ (l.erase a).erase b := (List.mem_erase_of_ne (Ne.symm bc)).2 hc'
  have := List.length_pos_of_mem hc2
  have := List.length_pos_of_mem ha
  have := List.length_pos_of_mem hb'
  omega
end Go.Proofs.YtalkkenkeilmpaaGreat.Q
