/- Euler's count: corners and faces together are edges and two. -/
import Derived.Test.YtalkkenkeilmpaaGreatU2
namespace Go.Proofs.YtalkkenkeilmpaaGreat.Q
open Go Go.RowKit Go.Proofs Go.Proofs.YtalkkenkeilmpaaGreat.Ev Go.Proofs.YtalkkenkeilmpaaGreat.G
set_option linter.unusedSimpArgs false
set_option linter.unusedVariables false

noncomputable def tb (P : Prop) : Bool := @decide P (Classical.propDecidable P)
theorem tb_iff {P : Prop} : tb P = true ↔ P := by unfold tb; exact @decide_eq_true_iff P (Classical.propDecidable P)
theorem tb_not {P : Prop} : (!tb P) = true ↔ ¬ P := by rw [Bool.not_eq_true', ← Bool.not_eq_true, tb_iff]
def Tv (M : List S4) (v : S4) : List S4 := M.filter fun p => decide (sv p v = 0)
theorem mem_Tv {M : List S4} {v p : S4} : p ∈ Tv M v ↔ p ∈ M ∧ sv p v = 0 := by unfold Tv; rw [List.mem_filter, decide_eq_true_eq]
/-- the way from one spot to another -/
def dir (v w : S4) : S3 := ⟨v.d * w.a - w.d * v.a, v.d * w.b - w.d * v.b, v.d * w.c - w.d * v.c⟩
theorem ip_dir (p v w : S4) : ip (v3 p) (dir v w) = v.d * sv p w - w.d * sv p v := by simp only [ip, v3, dir, sv]; grind
theorem ipf_dir (f : S3) (v w : S4) : ip f (dir v w) = v.d * ip f (v3 w) - w.d * ip f (v3 v) := by simp only [ip, v3, dir]; grind
theorem dir_anti (f : S3) (v w : S4) : ip f (dir w v) = -ip f (dir v w) := by rw [ipf_dir, ipf_dir]; omega
theorem dir_z {v w : S4} (hv : okSpot v = true) (hw : okSpot w = true) (h : dir v w = z3) : w = v := by
  rw [S3_ext] at h
  simp only [dir, z3] at h
  exact spot_same hv hw (by omega) (by omega) (by omega)
theorem mS_par {p q r x : S4} (h : D3 p q r ≠ 0) (tp : sv p x = 0) (tq : sv q x = 0) (tr : sv r x = 0) (t : S4) : x.d * sv t (mS p q r) = (mS p q r).d * sv t x := by
  obtain ⟨e1, e2, e3, e4⟩ := mS_mul (p := p) (q := q) (r := r)
  have hm := mH_ne h
  have k1 : D3 p q r * x.a - mX p q r * x.d = (q.b * r.c - q.c * r.b) * sv p x + (r.b * p.c - r.c * p.b) * sv q x + (p.b * q.c - p.c * q.b) * sv r x := by simp only [D3, mX, dt, ip, cx, v3, sv]; grind
  have k2 : D3 p q r * x.b - mY p q r * x.d = (q.c * r.a - q.a * r.c) * sv p x + (r.c * p.a - r.a * p.c) * sv q x + (p.c * q.a - p.a * q.c) * sv r x := by simp only [D3, mY, dt, ip, cx, v3, sv]; grind
  have k3 : D3 p q r * x.c - mZ p q r * x.d = (q.a * r.b - q.b * r.a) * sv p x + (r.a * p.b - r.b * p.a) * sv q x + (p.a * q.b - p.b * q.a) * sv r x := by simp only [D3, mZ, dt, ip, cx, v3, sv]; grind
  rw [tp, tq, tr] at k1 k2 k3
  rw [← e4, ← e1] at k1; rw [← e4, ← e2] at k2; rw [← e4, ← e3] at k3
  generalize mS p q r = m at *
  generalize mH p q r = H at *
  refine Int.eq_of_mul_eq_mul_left hm ?_
  simp only [sv]
  grind

/-- a cell by its needed planes, its corners, and a way on which no edge lies level. -/
structure Cell (M V : List S4) (f : S3) : Prop where
  mnd : M.Nodup
  vnd : V.Nodup
  ok : ∀ p ∈ M, okp p = true
  mid : ∃ v, Mid M v
  nd : ∀ p ∈ M, Nd M p
  bdd : ∀ u : S3, (∀ p ∈ M, 0 ≤ ip (v3 p) u) → u = z3
  cor : ∀ x, x ∈ V ↔ Cor M x
  gen : ∀ p ∈ M, ∀ q ∈ M, cx (v3 p) (v3 q) ≠ z3 → ip f (cx (v3 p) (v3 q)) ≠ 0
/-- from corner v the edge behind p leads to w. -/
def Rr (M : List S4) (v w p : S4) : Prop := p ∈ Tv M v ∧ w ≠ v ∧ sv p w = 0 ∧ ∃ s, Sc (Tv M v) p s ∧ sv s w = 0
/-- two corners of one edge -/
def Ed (M : List S4) (v w : S4) : Prop := ∃ p ∈ M, ∃ q ∈ M, p ≠ q ∧ sv p v = 0 ∧ sv q v = 0 ∧ sv p w = 0 ∧ sv q w = 0
namespace Cell
variable {M V : List S4} {f : S3} (h : Cell M V f)
include h
theorem vok {v : S4} (hv : v ∈ V) : okSpot v = true := ((h.cor v).1 hv).1
theorem vd {v : S4} (hv : v ∈ V) : 0 < v.d := okSpot_d (h.vok hv)
theorem vin {v : S4} (hv : v ∈ V) : ∀ p ∈ M, 0 ≤ sv p v := ((h.cor v).1 hv).2.1
theorem face {p : S4} (hp : p ∈ M) : ∃ y : S4, 0 < y.d ∧ sv p y = 0 ∧ ∀ q ∈ M, q ≠ p → 0 < sv q y := by
  obtain ⟨y, y0, y1, y2⟩ := h.nd p hp
  obtain ⟨v, v0, v1⟩ := h.mid
  have pv := v1 p hp
  refine ⟨ad (sv p v) y (-sv p y) v, ?_, by rw [sv_ad]; grind, fun q hq ne => ?_⟩
  · have := Int.mul_pos pv y0; have := Int.mul_pos (show 0 < -sv p y by omega) v0
    simp only [ad]; omega
  · rw [sv_ad]
    have := Int.mul_pos pv (y2 q hq ne); have := Int.mul_pos (show 0 < -sv p y by omega) (v1 q hq)
    omega
theorem loc {v : S4} (hv : v ∈ V) : Loc (Tv M v) where
  fac := fun p hp => by
    obtain ⟨pM, pv⟩ := mem_Tv.1 hp
    obtain ⟨y, y0, y1, y2⟩ := h.face pM
    refine ⟨dir v y, by rw [ip_dir, y1, pv]; omega, fun q hq ne => ?_⟩
    obtain ⟨qM, qv⟩ := mem_Tv.1 hq
    rw [ip_dir, qv]
    have := Int.mul_pos (h.vd hv) (y2 q qM ne); omega
  rk := by
    obtain ⟨_, _, p, hp, q, hq, r, hr, hd, tp, tq, tr⟩ := (h.cor v).1 hv
    exact ⟨p, mem_Tv.2 ⟨hp, tp⟩, q, mem_Tv.2 ⟨hq, tq⟩, r, mem_Tv.2 ⟨hr, tr⟩, hd⟩
  mid := by
    obtain ⟨m, m0, m1⟩ := h.mid
    refine ⟨dir v m, fun p hp => ?_⟩
    obtain ⟨pM, pv⟩ := mem_Tv.1 hp
    rw [ip_dir, pv]
    have := Int.mul_pos (h.vd hv) (m1 p pM); omega
theorem genT {v : S4} (hv : v ∈ V) : Gen (Tv M v) f := fun p hp q hq ne => by
  refine h.gen p (mem_Tv.1 hp).1 q (mem_Tv.1 hq).1 fun hz => ?_
  obtain ⟨b, hb, bp, bq⟩ := (h.loc hv).third p q
  exact (h.loc hv).dt3 hp hq hb ne (Ne.symm bp) (Ne.symm bq) (Rk.dt_of_cx hz _)
theorem dirK {v w : S4} (hv : v ∈ V) (hw : w ∈ V) : ∀ b ∈ Tv M v, 0 ≤ ip (v3 b) (dir v w) := fun b hb => by
  obtain ⟨bM, bv⟩ := mem_Tv.1 hb
  rw [ip_dir, bv]
  have := Int.mul_nonneg (Int.le_of_lt (h.vd hv)) (h.vin hw b bM); omega
theorem dirN {v w : S4} (hv : v ∈ V) (hw : w ∈ V) (ne : w ≠ v) : dir v w ≠ z3 := fun e => ne (dir_z (h.vok hv) (h.vok hw) e)
theorem to_cor {x p q r : S4} (xd : 0 < x.d) (hx : ∀ t ∈ M, 0 ≤ sv t x) (hp : p ∈ M) (hq : q ∈ M) (hr : r ∈ M) (hd : D3 p q r ≠ 0) (tp : sv p x = 0) (tq : sv q x = 0) (tr : sv r x = 0) :
    ∃ w ∈ V, 0 < w.d ∧ ∀ t : S4, x.d * sv t w = w.d * sv t x := by
  have ok : okSpot (mS p q r) = true := by rw [← spk_ok]; exact mS_ok (okp_bd4 (h.ok p hp)) (okp_bd4 (h.ok q hq)) (okp_bd4 (h.ok r hr)) hd
  have par := mS_par hd tp tq tr
  have md := okSpot_d ok
  refine ⟨mS p q r, (h.cor _).2 ⟨ok, fun t ht => ?_, p, hp, q, hq, r, hr, hd, mS_on hd⟩, md, par⟩
  have := Int.mul_nonneg (Int.le_of_lt md) (hx t ht)
  rw [← par t] at this
  refine Int.not_lt.1 fun hc => ?_
  have := Int.mul_pos xd (show 0 < -sv t (mS p q r) by omega)
  rw [Int.mul_neg] at this; omega
/-- the other end of an edge -/
theorem ray {v p s : S4} (hv : v ∈ V) (hp : p ∈ Tv M v) (hs : Sc (Tv M v) p s) : ∃ w ∈ V, w ≠ v ∧ sv p w = 0 ∧ sv s w = 0 ∧ ∃ n ∈ M, sv n v ≠ 0 := by
  have L := h.loc hv
  obtain ⟨b, hb, bp, bs⟩ := L.third p s
  have b0 := hs.2.2 b hb bp bs
  have ez : cx (v3 p) (v3 s) ≠ z3 := fun e => by rw [Rk.dt_of_cx e] at b0; omega
  obtain ⟨n, hn, g0⟩ : ∃ n ∈ M, ip (v3 n) (cx (v3 p) (v3 s)) < 0 := Classical.byContradiction fun hc => ez (h.bdd _ fun q hq => Int.not_lt.1 fun hlt => hc ⟨q, hq, hlt⟩)
  obtain ⟨n, hn, g0, g1⟩ := first_of (fun q => sv q v) (fun q => ip (v3 q) (cx (v3 p) (v3 s))) M (h.vin hv) ⟨n, hn, g0⟩
  obtain ⟨pM, pv⟩ := mem_Tv.1 hp
  obtain ⟨sM, sv0⟩ := mem_Tv.1 hs.1
  have nv : sv n v ≠ 0 := fun e => by have := hs.edge n (mem_Tv.2 ⟨hn, e⟩); omega
  have e0 : ∀ (t : S4) (u : S3), sv t ⟨u.x, u.y, u.z, 0⟩ = ip (v3 t) u := fun p v => by simp [ip, v3, sv]
  generalize hE : cx (v3 p) (v3 s) = e at *
  have pe : ip (v3 p) e = 0 := by subst hE; rw [dt_ip, Rk.dt_self_o]
  have se : ip (v3 s) e = 0 := by subst hE; rw [dt_ip, Rk.dt_self_r]
  have hd : D3 p s n ≠ 0 := by
    have : D3 p s n = ip (v3 n) e := by subst hE; rw [dt_ip]; rfl
    omega
  obtain ⟨w, hw, wd, par⟩ := h.to_cor (x := ad (-ip (v3 n) e) v (sv n v) ⟨e.x, e.y, e.z, 0⟩) (by
    have := Int.mul_pos (show 0 < -ip (v3 n) e by omega) (h.vd hv)
    simp only [ad]; omega) (fun t ht => by rw [sv_ad, e0]; exact g1 t ht) pM sM hn hd (by rw [sv_ad, e0, pv, pe]; omega) (by rw [sv_ad, e0, sv0, se]; omega) (by rw [sv_ad, e0]; grind)
  have xd : 0 < (ad (-ip (v3 n) e) v (sv n v) ⟨e.x, e.y, e.z, 0⟩).d := by
    have := Int.mul_pos (show 0 < -ip (v3 n) e by omega) (h.vd hv)
    simp only [ad]; omega
  have z : ∀ t : S4, sv t (ad (-ip (v3 n) e) v (sv n v) ⟨e.x, e.y, e.z, 0⟩) = 0 → sv t w = 0 := fun t ht => by
    have := par t
    rw [ht, Int.mul_zero] at this
    exact (Int.mul_eq_zero.1 this).resolve_left (by omega)
  refine ⟨w, hw, fun e2 => nv ?_, z p (by rw [sv_ad, e0, pv, pe]; omega), z s (by rw [sv_ad, e0, sv0, se]; omega), n, hn, nv⟩
  rw [← e2]
  exact z n (by rw [sv_ad, e0]; grind)
theorem dpos {v w p s : S4} (hv : v ∈ V) (hw : w ∈ V) (ne : w ≠ v) (hp : p ∈ Tv M v) (hs : Sc (Tv M v) p s) (pw : sv p w = 0) (sw : sv s w = 0) :
    ∃ c b : Int, 0 < c ∧ 0 < b ∧ ∀ g : S3, c * ip g (dir v w) = b * ip g (cx (v3 p) (v3 s)) := by
  have L := h.loc hv
  obtain ⟨b, hb, bp, bs⟩ := L.third p s
  have b0 := hs.2.2 b hb bp bs
  have px : ip (v3 p) (dir v w) = 0 := by rw [ip_dir, pw, (mem_Tv.1 hp).2]; omega
  have sx : ip (v3 s) (dir v w) = 0 := by rw [ip_dir, sw, (mem_Tv.1 hs.1).2]; omega
  have bx := h.dirK hv hw b hb
  have bn : ip (v3 b) (dir v w) ≠ 0 := fun e => h.dirN hv hw ne (ip_zero3 (by omega) px sx e)
  refine ⟨dt (v3 p) (v3 s) (v3 b), ip (v3 b) (dir v w), b0, by omega, fun g => ?_⟩
  rw [rec3, px, sx]; omega
/-- down to the end of an edge just if the edge goes down. -/
theorem dn_end {v w p : S4} (hv : v ∈ V) (hw : w ∈ V) (r : Rr M v w p) (g : S3) : ip g (dir v w) < 0 ↔ Dn (Tv M v) g p := by
  obtain ⟨hp, ne, pw, s, hs, sw⟩ := r
  obtain ⟨c, b, c0, b0, e⟩ := h.dpos hv hw ne hp hs pw sw
  rw [hs.dn]
  have e := e g
  constructor
  · intro hlt
    refine Int.not_le.1 fun hc => ?_
    have := Int.mul_nonneg (Int.le_of_lt b0) hc
    have := Int.mul_pos c0 (show 0 < -ip g (dir v w) by omega)
    rw [Int.mul_neg] at this; omega
  · intro hlt
    refine Int.not_le.1 fun hc => ?_
    have := Int.mul_nonneg (Int.le_of_lt c0) hc
    have := Int.mul_pos b0 (show 0 < -ip g (cx (v3 p) (v3 s)) by omega)
    rw [Int.mul_neg] at this; omega
theorem R_ex {v p : S4} (hv : v ∈ V) (hp : p ∈ Tv M v) : ∃ w ∈ V, Rr M v w p := by
  obtain ⟨s, hs⟩ := (h.loc hv).suc hp
  obtain ⟨w, hw, ne, pw, sw, _⟩ := h.ray hv hp hs
  exact ⟨w, hw, hp, ne, pw, s, hs, sw⟩
theorem ray_le {v w w' p s : S4} (hv : v ∈ V) (hw : w ∈ V) (hw' : w' ∈ V) (hp : p ∈ Tv M v) (hs : Sc (Tv M v) p s) {c b c' b' : Int} (c0 : 0 < c) (b0 : 0 < b) (c0' : 0 < c') (b0' : 0 < b')
    (e : ∀ g : S3, c * ip g (dir v w) = b * ip g (cx (v3 p) (v3 s))) (e' : ∀ g : S3, c' * ip g (dir v w') = b' * ip g (cx (v3 p) (v3 s))) : w.d * (b' * c) ≤ w'.d * (b * c') := by
  have L := h.loc hv
  obtain ⟨q, hq, qp, qs⟩ := L.third p s
  have q0 := hs.2.2 q hq qp qs
  -- a plane at w that the edge comes to
  obtain ⟨n, hn, nw, nE⟩ : ∃ n ∈ M, sv n w = 0 ∧ ip (v3 n) (cx (v3 p) (v3 s)) ≠ 0 := by
    obtain ⟨_, _, a1, h1, a2, h2, a3, h3, hd, t1, t2, t3⟩ := (h.cor w).1 hw
    refine Classical.byContradiction fun hc => ?_
    have : cx (v3 p) (v3 s) = z3 := ip_zero3 hd (Classical.byContradiction fun hh => hc ⟨a1, h1, t1, hh⟩) (Classical.byContradiction fun hh => hc ⟨a2, h2, t2, hh⟩) (Classical.byContradiction fun hh => hc ⟨a3, h3, t3, hh⟩)
    rw [Rk.dt_of_cx this] at q0; omega
  have d1 := e (v3 n); have d2 := e' (v3 n)
  rw [ip_dir, nw] at d1; rw [ip_dir] at d2
  have vd := h.vd hv; have wd := h.vd hw; have wd' := h.vd hw'
  have nv := h.vin hv n hn; have nw' := h.vin hw' n hn
  generalize ip (v3 n) (cx (v3 p) (v3 s)) = X at *
  generalize sv n v = A at *
  generalize sv n w' = B at *
  -- b X = -c w.d A, b' X = c' (v.d B - w'.d A)
  have xneg : X < 0 := by
    refine Int.not_le.1 fun hc => ?_
    have m1 := Int.mul_pos b0 (show 0 < X by omega)
    have m2 := Int.mul_nonneg (Int.le_of_lt c0) (Int.mul_nonneg (Int.le_of_lt wd) nv)
    have : c * (v.d * 0 - w.d * A) = -(c * (w.d * A)) := by grind
    omega
  refine Int.not_lt.1 fun hc => ?_
  have m1 := Int.mul_pos (show 0 < w.d * (b' * c) - w'.d * (b * c') by omega) (show 0 < -X by omega)
  have m2 := Int.mul_nonneg (Int.mul_nonneg (Int.le_of_lt c0) (Int.le_of_lt c0')) (Int.mul_nonneg (Int.mul_nonneg (Int.le_of_lt wd) (Int.le_of_lt vd)) nw')
  have k : (w.d * (b' * c) - w'.d * (b * c')) * -X = -(c * c' * (w.d * v.d * B)) := by
    have e1 : (w.d * (b' * c) - w'.d * (b * c')) * -X = -(w.d * c * (b' * X)) + w'.d * c' * (b * X) := by grind
    rw [e1, ← d1, ← d2]; grind
  omega
theorem R_uw {v w w' p : S4} (hv : v ∈ V) (hw : w ∈ V) (hw' : w' ∈ V) (r : Rr M v w p) (r' : Rr M v w' p) : w = w' := by
  obtain ⟨hp, ne, pw, s, hs, sw⟩ := r
  obtain ⟨_, ne', pw', s', hs', sw'⟩ := r'
  have := hs.uniq hs'
  subst this
  obtain ⟨c, b, c0, b0, e⟩ := h.dpos hv hw ne hp hs pw sw
  obtain ⟨c', b', c0', b0', e'⟩ := h.dpos hv hw' ne' hp hs pw' sw'
  have l1 := h.ray_le hv hw hw' hp hs c0 b0 c0' b0' e e'
  have l2 := h.ray_le hv hw' hw hp hs c0' b0' c0 b0 e' e
  have eq : w.d * (b' * c) = w'.d * (b * c') := by omega
  have vd := h.vd hv
  have k : ∀ g : S3, w.d * ip g (dir v w') = w'.d * ip g (dir v w) := fun g => by
    have h1 := e g; have h2 := e' g
    have cc : c * c' ≠ 0 := Int.ne_of_gt (Int.mul_pos c0 c0')
    refine Int.eq_of_mul_eq_mul_left cc ?_
    have e1 : c * c' * (w.d * ip g (dir v w')) = c * w.d * (c' * ip g (dir v w')) := by grind
    have e2 : c * c' * (w'.d * ip g (dir v w)) = c' * w'.d * (c * ip g (dir v w)) := by grind
    rw [e1, e2, h1, h2]
    grind
  have kx := k ⟨1, 0, 0⟩; have ky := k ⟨0, 1, 0⟩; have kz := k ⟨0, 0, 1⟩
  simp only [ip, dir] at kx ky kz
  have cv : ∀ {x y : Int}, v.d * x = v.d * y → x = y := fun h => Int.eq_of_mul_eq_mul_left (by omega) h
  exact spot_same (h.vok hw') (h.vok hw) (cv (by grind)) (cv (by grind)) (cv (by grind))
theorem R_up {v w p q : S4} (hv : v ∈ V) (hw : w ∈ V) (r : Rr M v w p) (r' : Rr M v w q) : p = q := by
  obtain ⟨hp, ne, pw, s, hs, sw⟩ := r
  obtain ⟨hq, _, qw, t, ht, tw⟩ := r'
  have L := h.loc hv
  have z : ∀ a, a ∈ Tv M v → sv a w = 0 → ip (v3 a) (dir v w) = 0 := fun a ha aw => by rw [ip_dir, aw, (mem_Tv.1 ha).2]; omega
  have no : ∀ a b c, a ∈ Tv M v → b ∈ Tv M v → c ∈ Tv M v → sv a w = 0 → sv b w = 0 → sv c w = 0 → a ≠ b → a ≠ c → b ≠ c → False := fun a b c ha hb hc aw bw cw ab ac bc =>
    h.dirN hv hw ne (ip_zero3 (L.dt3 ha hb hc ab ac bc) (z a ha aw) (z b hb bw) (z c hc cw))
  refine Classical.byContradiction fun pq => ?_
  by_cases e : q = s
  · subst e
    by_cases e2 : t = p
    · subst e2
      obtain ⟨b, hb, bp, bq⟩ := L.third t q
      have h1 := hs.2.2 b hb bp bq
      have h2 := ht.2.2 b hb bq bp
      have : dt (v3 q) (v3 t) (v3 b) = -dt (v3 t) (v3 q) (v3 b) := by simp only [dt, ip, cx]; grind
      omega
    · exact no p q t hp hq ht.1 pw qw tw pq (Ne.symm e2) (Ne.symm ht.2.1)
  · exact no p s q hp hs.1 hq pw sw qw (Ne.symm hs.2.1) pq (Ne.symm e)
omit h in
theorem R_ed {v w p : S4} (r : Rr M v w p) : Ed M v w := by
  obtain ⟨hp, _, pw, s, hs, sw⟩ := r
  exact ⟨p, (mem_Tv.1 hp).1, s, (mem_Tv.1 hs.1).1, Ne.symm hs.2.1, (mem_Tv.1 hp).2, (mem_Tv.1 hs.1).2, pw, sw⟩
theorem ed_R {v w : S4} (hv : v ∈ V) (hw : w ∈ V) (ne : w ≠ v) (he : Ed M v w) : ∃ p ∈ Tv M v, Rr M v w p := by
  obtain ⟨p, pM, q, qM, pq, pv, qv, pw, qw⟩ := he
  have L := h.loc hv
  have hp : p ∈ Tv M v := mem_Tv.2 ⟨pM, pv⟩
  have hq : q ∈ Tv M v := mem_Tv.2 ⟨qM, qv⟩
  have zp : ip (v3 p) (dir v w) = 0 := by rw [ip_dir, pw, pv]; omega
  have zq : ip (v3 q) (dir v w) = 0 := by rw [ip_dir, qw, qv]; omega
  have pos : ∀ b ∈ Tv M v, b ≠ p → b ≠ q → 0 < ip (v3 b) (dir v w) := fun b hb bp bq => by
    have := h.dirK hv hw b hb
    have : ip (v3 b) (dir v w) ≠ 0 := fun e => h.dirN hv hw ne (ip_zero3 (L.dt3 hp hq hb pq (Ne.symm bp) (Ne.symm bq)) zp zq e)
    omega
  have key : ∀ p q : S4, q ∈ Tv M v → q ≠ p → ip (v3 p) (dir v w) = 0 → ip (v3 q) (dir v w) = 0 → (∀ b ∈ Tv M v, b ≠ p → b ≠ q → 0 < ip (v3 b) (dir v w)) → (∃ b ∈ Tv M v, (b ≠ p ∧ b ≠ q) ∧ 0 < dt (v3 p) (v3 q) (v3 b)) → Sc (Tv M v) p q := fun p q hq qp zp zq pos ⟨b, hb, ⟨bp, bq⟩, b0⟩ => by
    refine ⟨hq, qp, fun c hc cp cq => ?_⟩
    have k := rec3 (v3 p) (v3 q) (v3 b) (dir v w) (v3 c)
    rw [zp, zq, dt_ip] at k
    have m1 := Int.mul_pos b0 (pos c hc cp cq)
    exact Int.pos_of_mul_pos_right (by omega : 0 < ip (v3 b) (dir v w) * dt (v3 p) (v3 q) (v3 c)) (pos b hb bp bq)
  obtain ⟨b, hb, bp, bq⟩ := L.third p q
  have hd := L.dt3 hp hq hb pq (Ne.symm bp) (Ne.symm bq)
  rcases Int.lt_or_gt_of_ne hd with c | c
  · have e : dt (v3 q) (v3 p) (v3 b) = -dt (v3 p) (v3 q) (v3 b) := by simp only [dt, ip, cx]; grind
    exact ⟨q, hq, hq, ne, qw, p, key q p hp pq zq zp (fun b hb h1 h2 => pos b hb h2 h1) ⟨b, hb, ⟨bq, bp⟩, by omega⟩, pw⟩
  · exact ⟨p, hp, hp, ne, pw, q, key p q hq (Ne.symm pq) zp zq pos ⟨b, hb, ⟨bp, bq⟩, c⟩, qw⟩
end Cell
namespace Cell
variable {M V : List S4} {f : S3} (h : Cell M V f)
include h
/-- going on from a point, up to one more plane. -/
theorem move {x : S4} {u : S3} (xd : 0 < x.d) (hx : ∀ t ∈ M, 0 ≤ sv t x) (hu : u ≠ z3) : ∃ y : S4, 0 < y.d ∧ (∀ t ∈ M, 0 ≤ sv t y) ∧ (∃ n ∈ M, ip (v3 n) u ≠ 0 ∧ sv n y = 0) ∧ ∀ q, sv q x = 0 → ip (v3 q) u = 0 → sv q y = 0 := by
  obtain ⟨n, hn, g0⟩ : ∃ n ∈ M, ip (v3 n) u < 0 := Classical.byContradiction fun hc => hu (h.bdd _ fun q hq => Int.not_lt.1 fun hlt => hc ⟨q, hq, hlt⟩)
  obtain ⟨n, hn, g0, g1⟩ := first_of (fun q => sv q x) (fun q => ip (v3 q) u) M hx ⟨n, hn, g0⟩
  have e0 : ∀ t : S4, sv t ⟨u.x, u.y, u.z, 0⟩ = ip (v3 t) u := fun p => by simp [ip, v3, sv]
  refine ⟨ad (-ip (v3 n) u) x (sv n x) ⟨u.x, u.y, u.z, 0⟩, ?_, fun t ht => by rw [sv_ad, e0]; exact g1 t ht, ⟨n, hn, by omega, by rw [sv_ad, e0]; grind⟩, fun q a b => by rw [sv_ad, e0, a, b]; omega⟩
  have := Int.mul_pos (show 0 < -ip (v3 n) u by omega) xd
  simp only [ad]; omega
/-- each face has a corner. -/
theorem fcor {p : S4} (hp : p ∈ M) : ∃ v ∈ V, sv p v = 0 := by
  obtain ⟨y, y0, y1, y2⟩ := h.face hp
  have yM : ∀ t ∈ M, 0 ≤ sv t y := fun t ht => by
    by_cases e : t = p
    · subst e; omega
    · have := y2 t ht e; omega
  have pz := Rk.v3_nz (h.ok p hp)
  obtain ⟨u, hu, hpu⟩ := ker3 (T := [v3 p]) (by
    intro a ha b hb c hc
    rw [List.mem_singleton] at ha hb hc
    subst ha hb hc
    exact Rk.dt_self_l _ _)
  have pu := hpu _ (List.mem_singleton.2 rfl)
  obtain ⟨x, x0, x1, ⟨n, hn, nu, nx⟩, x3⟩ := h.move y0 yM hu
  have px := x3 p y1 pu
  have hc : cx (v3 p) (v3 n) ≠ z3 := fun e => nu (ip_par pz e pu)
  obtain ⟨w, w0, w1, ⟨m, hm, mu, mw⟩, w3⟩ := h.move x0 x1 hc
  have pw := w3 p px (by rw [dt_ip, Rk.dt_self_o])
  have nw := w3 n nx (by rw [dt_ip, Rk.dt_self_r])
  rw [dt_ip] at mu
  obtain ⟨v, hv, _, par⟩ := h.to_cor w0 w1 hp hn hm mu pw nw mw
  have := par p
  rw [pw, Int.mul_zero] at this
  exact ⟨v, hv, (Int.mul_eq_zero.1 this).resolve_left (by omega)⟩
/-- the highest of some corners: edges that stay among them go down. -/
theorem highest {W : List S4} (g : S3) (hW : ∀ w ∈ W, w ∈ V) (ne : W ≠ []) : ∃ n ∈ W, ∀ w ∈ W, ip g (dir n w) ≤ 0 := by
  obtain ⟨n, hn, h1⟩ := sup_of (fun v : S4 => ip g (v3 v)) (fun v => v.d) W ne (fun w hw => h.vd (hW w hw))
  refine ⟨n, hn, fun w hw => ?_⟩
  have := h1 w hw
  rw [ipf_dir]
  have e1 : n.d * ip g (v3 w) = ip g (v3 w) * n.d := Int.mul_comm _ _
  have e2 : w.d * ip g (v3 n) = ip g (v3 n) * w.d := Int.mul_comm _ _
  omega
theorem dn_of {v w p : S4} (hv : v ∈ V) (hw : w ∈ V) (r : Rr M v w p) (hle : ip f (dir v w) ≤ 0) : Dn (Tv M v) f p := by
  refine Classical.byContradiction fun hn => ?_
  have L := h.loc hv
  have a := mt (h.dn_end hv hw r f).1 hn
  have b := (h.dn_end hv hw r (Rk.ng f)).2 ((L.dn_neg (h.genT hv) r.1).2 hn)
  have e : ip (Rk.ng f) (dir v w) = -ip f (dir v w) := by simp only [ip, Rk.ng]; grind
  omega
/-- each face is left downwards, both ways, from just one of its corners. -/
theorem face_top {p : S4} (hp : p ∈ M) : V.countP (fun v => tb (p ∈ Tv M v ∧ Dn (Tv M v) f p ∧ Bn (Tv M v) f p)) = 1 := by
  refine count_one h.vnd ?_ fun v hv v' hv' a b => ?_
  · obtain ⟨v, hv, pv⟩ := h.fcor hp
    have mW : ∀ w, w ∈ V.filter (fun w => decide (sv p w = 0)) ↔ w ∈ V ∧ sv p w = 0 := fun w => by rw [List.mem_filter, decide_eq_true_eq]
    obtain ⟨n, hn, top⟩ := h.highest f (W := V.filter fun w => decide (sv p w = 0)) (fun w hw => ((mW w).1 hw).1) (List.ne_nil_of_mem ((mW v).2 ⟨hv, pv⟩))
    obtain ⟨nV, pn⟩ := (mW n).1 hn
    have pT : p ∈ Tv M n := mem_Tv.2 ⟨hp, pn⟩
    refine ⟨n, nV, tb_iff.2 ⟨pT, ?_, ?_⟩⟩
    · obtain ⟨w, hw, r⟩ := h.R_ex nV pT
      exact h.dn_of nV hw r (top w ((mW w).2 ⟨hw, r.2.2.1⟩))
    · obtain ⟨t, ht, hst⟩ := (h.loc nV).pre pT
      rw [← Dn.bn ht hst]
      obtain ⟨w, hw, r⟩ := h.R_ex nV ht
      refine h.dn_of nV hw r (top w ((mW w).2 ⟨hw, ?_⟩))
      obtain ⟨_, _, _, s, hs, sw⟩ := r
      rw [hst.uniq hs]; exact sw
  · refine Classical.byContradiction fun ne => ?_
    rw [tb_iff] at a b
    obtain ⟨p1, d1, b1⟩ := a
    obtain ⟨p2, d2, b2⟩ := b
    have pv := (mem_Tv.1 p1).2; have pv' := (mem_Tv.1 p2).2
    have x1 := (h.loc hv).face p1 d1 b1 (h.dirN hv hv' (Ne.symm ne)) (h.dirK hv hv') (by rw [ip_dir, pv, pv']; omega)
    have x2 := (h.loc hv').face p2 d2 b2 (h.dirN hv' hv ne) (h.dirK hv' hv) (by rw [ip_dir, pv, pv']; omega)
    rw [dir_anti] at x2; omega
theorem ne_nil : M ≠ [] ∧ V ≠ [] := by
  have hM : M ≠ [] := fun e => by
    have := h.bdd ⟨1, 0, 0⟩ (by rw [e]; intro p hp; cases hp)
    simp [z3] at this
  refine ⟨hM, ?_⟩
  obtain ⟨p, hp⟩ := List.exists_mem_of_ne_nil M hM
  obtain ⟨v, hv, _⟩ := h.fcor hp
  exact List.ne_nil_of_mem hv
/-- one corner is on top, one at the bottom. -/
theorem top_one : V.countP (fun v => tb (∀ p ∈ Tv M v, Dn (Tv M v) f p)) = 1 := by
  refine count_one h.vnd ?_ fun v hv v' hv' a b => ?_
  · obtain ⟨n, hn, top⟩ := h.highest f (W := V) (fun w hw => hw) h.ne_nil.2
    refine ⟨n, hn, tb_iff.2 fun p hp => ?_⟩
    obtain ⟨w, hw, r⟩ := h.R_ex hn hp
    exact h.dn_of hn hw r (top w hw)
  · refine Classical.byContradiction fun ne => ?_
    rw [tb_iff] at a b
    have x1 := (h.loc hv).down a (h.dirN hv hv' (Ne.symm ne)) (h.dirK hv hv')
    have x2 := (h.loc hv').down b (h.dirN hv' hv ne) (h.dirK hv' hv)
    rw [dir_anti] at x2; omega
theorem low_one : V.countP (fun v => tb (∀ p ∈ Tv M v, ¬ Dn (Tv M v) f p)) = 1 := by
  refine count_one h.vnd ?_ fun v hv v' hv' a b => ?_
  · obtain ⟨n, hn, top⟩ := h.highest (Rk.ng f) (W := V) (fun w hw => hw) h.ne_nil.2
    refine ⟨n, hn, tb_iff.2 fun p hp hd => ?_⟩
    obtain ⟨w, hw, r⟩ := h.R_ex hn hp
    have a := (h.dn_end hn hw r f).2 hd
    have b := top w hw
    have e : ip (Rk.ng f) (dir n w) = -ip f (dir n w) := by simp only [ip, Rk.ng]; grind
    omega
  · refine Classical.byContradiction fun ne => ?_
    rw [tb_iff] at a b
    have x1 := (h.loc hv).up (h.genT hv) a (h.dirN hv hv' (Ne.symm ne)) (h.dirK hv hv')
    have x2 := (h.loc hv').up (h.genT hv') b (h.dirN hv' hv ne) (h.dirK hv' hv)
    rw [dir_anti] at x2; omega
theorem tnd (v : S4) : (Tv M v).Nodup := List.Nodup.sublist List.filter_sublist h.mnd
/-- the edges at a corner are as many as the planes there; and so for some of them. -/
theorem deg {e : S4 → S4 → Bool} (he : ∀ v ∈ V, ∀ w ∈ V, w ≠ v → (e v w = true ↔ Ed M v w)) {v : S4} (hv : v ∈ V) (Q D : S4 → Bool) (hQ : ∀ w ∈ V, ∀ p ∈ Tv M v, Rr M v w p → Q w = D p) :
    V.countP (fun w => (decide (w ≠ v) && e v w) && Q w) = (Tv M v).countP D := by
  refine count_match (fun w p => tb (Rr M v w p) && Q w) h.vnd (h.tnd v) (fun w hw p hp r => ?_) (fun w hw hP => ?_) (fun w hw p hp p' hp' r r' => ?_) (fun p hp hD => ?_) (fun p hp w hw w' hw' r r' => ?_)
  · rw [Bool.and_eq_true, tb_iff] at r
    rw [Bool.and_eq_true, Bool.and_eq_true, decide_eq_true_eq, he v hv w hw r.1.2.1, ← hQ w hw p hp r.1]
    exact ⟨⟨⟨r.1.2.1, R_ed r.1⟩, r.2⟩, r.2⟩
  · rw [Bool.and_eq_true, Bool.and_eq_true, decide_eq_true_eq] at hP
    obtain ⟨p, hp, r⟩ := h.ed_R hv hw hP.1.1 ((he v hv w hw hP.1.1).1 hP.1.2)
    exact ⟨p, hp, by rw [Bool.and_eq_true, tb_iff]; exact ⟨r, hP.2⟩⟩
  · rw [Bool.and_eq_true, tb_iff] at r r'
    exact h.R_up hv hw r.1 r'.1
  · obtain ⟨w, hw, r⟩ := h.R_ex hv hp
    exact ⟨w, hw, by rw [Bool.and_eq_true, tb_iff, hQ w hw p hp r]; exact ⟨r, hD⟩⟩
  · rw [Bool.and_eq_true, tb_iff] at r r'
    exact h.R_uw hv hw hw' r.1 r'.1
/-- the turns at a corner: one, but for the top and the bottom. -/
theorem turns {v : S4} (hv : v ∈ V) : (Tv M v).countP (fun p => tb (Dn (Tv M v) f p) && !tb (Bn (Tv M v) f p)) = if tb ((∃ p ∈ Tv M v, Dn (Tv M v) f p) ∧ ∃ p ∈ Tv M v, ¬ Dn (Tv M v) f p) = true then 1 else 0 := by
  have L := h.loc hv
  have g := h.genT hv
  by_cases c : (∃ p ∈ Tv M v, Dn (Tv M v) f p) ∧ ∃ p ∈ Tv M v, ¬ Dn (Tv M v) f p
  · rw [if_pos (tb_iff.2 c)]
    refine count_one (h.tnd v) ?_ fun p hp q hq a b => ?_
    · obtain ⟨p, hp, a, b⟩ := L.turn_ex g c.1 c.2
      exact ⟨p, hp, by rw [Bool.and_eq_true, tb_iff, tb_not]; exact ⟨a, b⟩⟩
    · rw [Bool.and_eq_true, tb_iff, tb_not] at a b
      exact L.turn_one g hp hq a.1 a.2 b.1 b.2
  · rw [if_neg (fun hc => c (tb_iff.1 hc))]
    refine List.countP_eq_zero.2 fun p hp a => ?_
    rw [Bool.and_eq_true, tb_iff, tb_not] at a
    obtain ⟨t, ht, hst⟩ := L.pre hp
    exact c ⟨⟨p, hp, a.1⟩, t, ht, fun hd => a.2 ((Dn.bn ht hst).1 hd)⟩
theorem corners_sum : V.length = V.countP (fun v => tb ((∃ p ∈ Tv M v, Dn (Tv M v) f p) ∧ ∃ p ∈ Tv M v, ¬ Dn (Tv M v) f p)) + 2 := by
  have e : smN (fun _ : S4 => 1) V = smN (fun v => (if tb ((∃ p ∈ Tv M v, Dn (Tv M v) f p) ∧ ∃ p ∈ Tv M v, ¬ Dn (Tv M v) f p) = true then 1 else 0) + ((if tb (∀ p ∈ Tv M v, Dn (Tv M v) f p) = true then 1 else 0) + if tb (∀ p ∈ Tv M v, ¬ Dn (Tv M v) f p) = true then 1 else 0)) V := smN_congr fun v hv => by
    obtain ⟨p0, hp0, _⟩ := (h.loc hv).rk
    by_cases a : ∀ p ∈ Tv M v, Dn (Tv M v) f p
    · rw [if_neg (fun hc => by obtain ⟨_, p, hp, hn⟩ := tb_iff.1 hc; exact hn (a p hp)), if_pos (tb_iff.2 a), if_neg (fun hc => (tb_iff.1 hc : ∀ p ∈ Tv M v, ¬ Dn (Tv M v) f p) p0 hp0 (a p0 hp0))]
    · by_cases b : ∀ p ∈ Tv M v, ¬ Dn (Tv M v) f p
      · rw [if_neg (fun hc => by obtain ⟨⟨p, hp, hn⟩, _⟩ := tb_iff.1 hc; exact b p hp hn), if_neg (fun hc => a (tb_iff.1 hc)), if_pos (tb_iff.2 b)]
      · rw [if_pos (tb_iff.2 ⟨Classical.byContradiction fun hc => b fun p hp hd => hc ⟨p, hp, hd⟩, Classical.byContradiction fun hc => a fun p hp => Classical.byContradiction fun hd => hc ⟨p, hp, hd⟩⟩), if_neg (fun hc => a (tb_iff.1 hc)), if_neg (fun hc => b (tb_iff.1 hc))]
  rw [smN_one, smN_add, smN_add, smN_if, smN_if, smN_if, h.top_one, h.low_one] at e
  exact e
/-- Euler's count. -/
theorem euler {e : S4 → S4 → Bool} (he : ∀ v ∈ V, ∀ w ∈ V, w ≠ v → (e v w = true ↔ Ed M v w)) (sy : ∀ a ∈ V, ∀ b ∈ V, e a b = e b a) : V.length + M.length = pc e V + 2 := by
  have s1 := pc_sum (e := e) (lt := fun w v => decide (ip f (dir v w) < 0)) h.vnd sy (fun a ha b hb ab eab => by
    obtain ⟨p, hp, r⟩ := h.ed_R hb ha ab ((he b hb a ha ab).1 (by rw [← sy a ha b hb]; exact eab))
    have nz : ip f (dir b a) ≠ 0 := fun e0 => by
      have x1 := mt (h.dn_end hb ha r f).2 (by omega)
      have x2 := (h.dn_end hb ha r (Rk.ng f)).2 (((h.loc hb).dn_neg (h.genT hb) hp).2 x1)
      have e : ip (Rk.ng f) (dir b a) = -ip f (dir b a) := by simp only [ip, Rk.ng]; grind
      omega
    rw [dir_anti f b a, Bool.eq_iff_iff, decide_eq_true_eq, Bool.not_eq_true', decide_eq_false_iff_not]
    omega)
  have s2 : smN (fun v => V.countP fun w => (decide (w ≠ v) && e v w) && decide (ip f (dir v w) < 0)) V = smN (fun v => (Tv M v).countP fun p => tb (Dn (Tv M v) f p)) V := smN_congr fun v hv =>
    h.deg he hv _ _ fun w hw p hp r => by rw [Bool.eq_iff_iff, decide_eq_true_eq, tb_iff]; exact h.dn_end hv hw r f
  have s3 : smN (fun v => (Tv M v).countP fun p => tb (Dn (Tv M v) f p)) V = smN (fun v => (Tv M v).countP (fun p => tb (Dn (Tv M v) f p) && tb (Bn (Tv M v) f p)) + if tb ((∃ p ∈ Tv M v, Dn (Tv M v) f p) ∧ ∃ p ∈ Tv M v, ¬ Dn (Tv M v) f p) = true then 1 else 0) V := smN_congr fun v hv => by
    rw [count_split (fun p => tb (Dn (Tv M v) f p)) (fun p => tb (Bn (Tv M v) f p)) (Tv M v), h.turns hv]
  have s4 : smN (fun v => (Tv M v).countP (fun p => tb (Dn (Tv M v) f p) && tb (Bn (Tv M v) f p))) V = M.length := by
    have t1 : smN (fun v => (Tv M v).countP (fun p => tb (Dn (Tv M v) f p) && tb (Bn (Tv M v) f p))) V = smN (fun v => M.countP fun p => tb (p ∈ Tv M v ∧ Dn (Tv M v) f p ∧ Bn (Tv M v) f p)) V := smN_congr fun v hv => by
      unfold Tv
      rw [List.countP_filter]
      refine count_congr fun p hp => ?_
      rw [Bool.eq_iff_iff]
      simp only [Bool.and_eq_true, tb_iff, decide_eq_true_eq, List.mem_filter]
      constructor
      · rintro ⟨⟨a, b⟩, c⟩; exact ⟨⟨hp, c⟩, a, b⟩
      · rintro ⟨⟨_, c⟩, a, b⟩; exact ⟨⟨a, b⟩, c⟩
    rw [t1, smN_swap (fun v p => tb (p ∈ Tv M v ∧ Dn (Tv M v) f p ∧ Bn (Tv M v) f p)) M V, smN_congr (h := fun _ => 1) fun p hp => h.face_top hp, smN_one]
  have s5 := h.corners_sum
  rw [smN_add, s4, smN_if] at s3
  rw [s1, s2, s3]
  omega
theorem degree {e : S4 → S4 → Bool} (he : ∀ v ∈ V, ∀ w ∈ V, w ≠ v → (e v w = true ↔ Ed M v w)) {v : S4} (hv : v ∈ V) : 3 ≤ V.countP (fun w => decide (w ≠ v) && e v w) := by
  have d := h.deg he hv (fun _ => true) (fun _ => true) fun _ _ _ _ _ => rfl
  simp only [Bool.and_true, List.countP_true] at d
  rw [d]
  obtain ⟨p, hp, _⟩ := (h.loc hv).rk
  obtain ⟨q, hq, qp, _⟩ := (h.loc hv).third p p
  obtain ⟨r, hr, rp, rq⟩ := (h.loc hv).third p q
  exact three_of hp hq hr (Ne.symm qp) (Ne.symm rp) (Ne.symm rq)
theorem faces4 : 4 ≤ M.length := by
  obtain ⟨v, hv⟩ := List.exists_mem_of_ne_nil V h.ne_nil.2
  obtain ⟨p, hp, _⟩ := (h.loc hv).rk
  obtain ⟨s, hs⟩ := (h.loc hv).suc hp
  obtain ⟨_, _, _, _, _, n, hn, nv⟩ := h.ray hv hp hs
  obtain ⟨q, hq, qp, _⟩ := (h.loc hv).third p p
  obtain ⟨r, hr, rp, rq⟩ := (h.loc hv).third p q
  have t3 := three_of hp hq hr (Ne.symm qp) (Ne.symm rp) (Ne.symm rq)
  have : (Tv M v).length < M.length := by
    unfold Tv
    exact List.length_filter_lt_length_iff_exists.2 ⟨n, hn, by simp [nv]⟩
  omega
end Cell
/-- a way on which none of some ways lies level. -/
theorem gen_ex : ∀ W : List S3, (∀ w ∈ W, w ≠ z3) → ∃ f : S3, ∀ w ∈ W, ip f w ≠ 0
  | [], _ => ⟨z3, fun w hw => by cases hw⟩
  | w :: W, h => by
    obtain ⟨f, hf⟩ := gen_ex W fun w hw => h w (List.mem_cons_of_mem _ hw)
    have wz := h w List.mem_cons_self
    by_cases c : ip f w = 0
    · obtain ⟨N, N0, N1⟩ := big_of (fun x : S3 => ((ip f x).natAbs : Int)) (fun x => -((ip w x).natAbs : Int)) W (fun x hx => by have := hf x hx; omega)
      refine ⟨ad3 N f 1 w, fun x hx => ?_⟩
      have e : ip (ad3 N f 1 w) x = N * ip f x + ip w x := by simp only [ip, ad3]; grind
      rw [e]
      rcases List.mem_cons.1 hx with rfl | hx
      · rw [c]; have := sq_pos wz; omega
      · have k := N1 x hx
        have e2 : N * ((ip f x).natAbs : Int) = ((N * ip f x).natAbs : Int) := by rw [Int.natAbs_mul]; push_cast; rw [Int.natAbs_of_nonneg (Int.le_of_lt N0)]
        omega
    · exact ⟨f, fun x hx => by
        rcases List.mem_cons.1 hx with rfl | hx
        · exact c
        · exact hf x hx⟩
end Go.Proofs.YtalkkenkeilmpaaGreat.Q
