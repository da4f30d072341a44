/- Picked out of other texts. -/
import Derived.Test.YtlkcpldohlemcaaP9
namespace Go.Proofs.Ytlkcpldohlemcaa.Q
open Go Go.RowKit Go.Proofs Go.Proofs.Ytlkcpldohlemcaa.Ev Go.Proofs.Ytlkcpldohlemcaa.G
set_option linter.unusedSimpArgs false
set_option linter.unusedVariables false

def D4 (p q r s : S4) : Int := -p.d * dt (v3 q) (v3 r) (v3 s) + q.d * dt (v3 p) (v3 r) (v3 s) - r.d * dt (v3 p) (v3 q) (v3 s) + s.d * dt (v3 p) (v3 q) (v3 r)
theorem D4_bd {p q r s : S4} (hp : Bd4 p) (hq : Bd4 q) (hr : Bd4 r) (hs : Bd4 s) : -1500000000000 ≤ D4 p q r s ∧ D4 p q r s ≤ 1500000000000 := by
  have m1 := mul_bd hp.2 (dt_bd hq.1 hr.1 hs.1)
  have m2 := mul_bd hq.2 (dt_bd hp.1 hr.1 hs.1)
  have m3 := mul_bd hr.2 (dt_bd hp.1 hq.1 hs.1)
  have m4 := mul_bd hs.2 (dt_bd hp.1 hq.1 hr.1)
  unfold D4
  rw [Int.neg_mul]; omega
def D3 (p q r : S4) : Int := dt (v3 p) (v3 q) (v3 r)
theorem gcd_le' {x y : Int} {N : Nat} (hx : x.natAbs ≤ N) (hy : y.natAbs ≤ N) : Nat.gcd x.natAbs y.natAbs ≤ N := by
  by_cases z : x.natAbs = 0
  · rw [z, Nat.gcd_zero_left]; exact hy
  · exact Nat.le_trans (Nat.gcd_le_left _ (by omega)) hx
def spk (s : S4) : Bool := decide ((1 ≤ s.d ∧ s.d ≤ 1000000000) ∧ (-1000000000 ≤ s.a ∧ s.a ≤ 1000000000) ∧ (-1000000000 ≤ s.b ∧ s.b ≤ 1000000000) ∧ (-1000000000 ≤ s.c ∧ s.c ≤ 1000000000)) && (((Nat.gcd (Nat.gcd s.a.natAbs s.b.natAbs) (Nat.gcd s.c.natAbs s.d.natAbs) : Nat) : Int) == 1)
theorem spec_SpotOk_ev (s : S4) : Ev (fun k => spec_SpotOk.f k s) (spk s) := by
  simp only [spec_SpotOk.f, l1In_f, Option.bind_some, decide_eq_true_eq, spk]
  by_cases hd : 1 ≤ s.d ∧ s.d ≤ 1000000000
  · by_cases ha : -1000000000 ≤ s.a ∧ s.a ≤ 1000000000
    · by_cases hb : -1000000000 ≤ s.b ∧ s.b ≤ 1000000000
      · by_cases hc : -1000000000 ≤ s.c ∧ s.c ≤ 1000000000
        · simp only [hd, ha, hb, hc, and_self, if_true, decide_true, Bool.true_and]
          have la := gcd_le' (x := s.a) (y := s.b) (N := 1000000000) (by omega) (by omega)
          have lc := gcd_le' (x := s.c) (y := s.d) (N := 1000000000) (by omega) (by omega)
          refine (l3Gcd_ev (by omega) (by omega)).bind ((l3Gcd_ev (by omega) (by omega)).bind ?_)
          have := l3Gcd_ev (a := ((Nat.gcd s.a.natAbs s.b.natAbs : Nat) : Int)) (b := ((Nat.gcd s.c.natAbs s.d.natAbs : Nat) : Int)) (by omega) (by omega)
          simp only [Int.natAbs_natCast] at this
          exact this.one
        · simp only [hd, ha, hb, hc, and_self, if_true, if_false, and_false, decide_false, Bool.false_and]; exact .now fun _ => rfl
      · simp only [hd, ha, hb, and_self, if_true, if_false, and_false, false_and, decide_false, Bool.false_and]; exact .now fun _ => rfl
    · simp only [hd, ha, and_self, if_true, if_false, and_false, false_and, decide_false, Bool.false_and]; exact .now fun _ => rfl
  · simp only [hd, if_false, false_and, decide_false, Bool.false_and]; exact .now fun _ => rfl
def sd (p s : S4) : Int := sgn (W ((W ((W ((W (p.a * s.a)) + (W (p.b * s.b)))) + (W (p.c * s.c)))) + (W (p.d * s.d))))
theorem l5Side_f (k : Nat) (p s : S4) : spec_l5Side.f k p s = some (sd p s) := by simp only [spec_l5Side.f, l3Sign_f, Option.bind_some, sd]
theorem sideAt_f (k : Nat) (p s : S4) : impl_sideAt.f k p s = some (sd p s) := by simp only [impl_sideAt.f, sign_f, Option.bind_some, sd]
def mX (p q r : S4) : Int := dt ⟨-p.d, p.b, p.c⟩ ⟨-q.d, q.b, q.c⟩ ⟨-r.d, r.b, r.c⟩
def mY (p q r : S4) : Int := dt ⟨p.a, -p.d, p.c⟩ ⟨q.a, -q.d, q.c⟩ ⟨r.a, -r.d, r.c⟩
def mZ (p q r : S4) : Int := dt ⟨p.a, p.b, -p.d⟩ ⟨q.a, q.b, -q.d⟩ ⟨r.a, r.b, -r.d⟩
def mG (p q r : S4) : Nat := Nat.gcd (Nat.gcd (mX p q r).natAbs (mY p q r).natAbs) (Nat.gcd (mZ p q r).natAbs (D3 p q r).natAbs)
def mH (p q r : S4) : Int := if D3 p q r < 0 then -(mG p q r : Int) else (mG p q r : Int)
def mS (p q r : S4) : S4 := ⟨(mX p q r).tdiv (mH p q r), (mY p q r).tdiv (mH p q r), (mZ p q r).tdiv (mH p q r), (D3 p q r).tdiv (mH p q r)⟩
theorem m_bd {p q r : S4} (hp : Bd4 p) (hq : Bd4 q) (hr : Bd4 r) : (-750000000 ≤ mX p q r ∧ mX p q r ≤ 750000000) ∧ (-750000000 ≤ mY p q r ∧ mY p q r ≤ 750000000) ∧ (-750000000 ≤ mZ p q r ∧ mZ p q r ≤ 750000000) ∧ (-750000000 ≤ D3 p q r ∧ D3 p q r ≤ 750000000) := by
  obtain ⟨⟨a1, a2, a3⟩, a4⟩ := hp
  obtain ⟨⟨b1, b2, b3⟩, b4⟩ := hq
  obtain ⟨⟨c1, c2, c3⟩, c4⟩ := hr
  simp only [v3] at a1 a2 a3 b1 b2 b3 c1 c2 c3
  have na : -500 ≤ -p.d ∧ -p.d ≤ 500 := by omega
  have nb : -500 ≤ -q.d ∧ -q.d ≤ 500 := by omega
  have nc : -500 ≤ -r.d ∧ -r.d ≤ 500 := by omega
  exact ⟨dt_bd ⟨na, a2, a3⟩ ⟨nb, b2, b3⟩ ⟨nc, c2, c3⟩, dt_bd ⟨a1, na, a3⟩ ⟨b1, nb, b3⟩ ⟨c1, nc, c3⟩, dt_bd ⟨a1, a2, na⟩ ⟨b1, b2, nb⟩ ⟨c1, c2, nc⟩, dt_bd ⟨a1, a2, a3⟩ ⟨b1, b2, b3⟩ ⟨c1, c2, c3⟩⟩
theorem mG_le {p q r : S4} (hp : Bd4 p) (hq : Bd4 q) (hr : Bd4 r) : mG p q r ≤ 750000000 := by
  obtain ⟨bx, by_, bz, bw⟩ := m_bd hp hq hr
  have h1 := gcd_le' (x := mX p q r) (y := mY p q r) (N := 750000000) (by omega) (by omega)
  have h2 := gcd_le' (x := mZ p q r) (y := D3 p q r) (N := 750000000) (by omega) (by omega)
  have h3 := gcd_le' (x := ((Nat.gcd (mX p q r).natAbs (mY p q r).natAbs : Nat) : Int)) (y := ((Nat.gcd (mZ p q r).natAbs (D3 p q r).natAbs : Nat) : Int)) (N := 750000000) (by omega) (by omega)
  simp only [Int.natAbs_natCast] at h3
  exact h3
theorem mG_pos {p q r : S4} (h : D3 p q r ≠ 0) : 0 < mG p q r := by
  refine Nat.pos_of_ne_zero fun e => h ?_
  have := Nat.eq_zero_of_gcd_eq_zero_right (Nat.eq_zero_of_gcd_eq_zero_right e)
  omega
theorem mG_dvd (p q r : S4) : (mG p q r ∣ (mX p q r).natAbs ∧ mG p q r ∣ (mY p q r).natAbs) ∧ mG p q r ∣ (mZ p q r).natAbs ∧ mG p q r ∣ (D3 p q r).natAbs :=
  ⟨⟨Nat.dvd_trans (Nat.gcd_dvd_left _ _) (Nat.gcd_dvd_left _ _), Nat.dvd_trans (Nat.gcd_dvd_left _ _) (Nat.gcd_dvd_right _ _)⟩, Nat.dvd_trans (Nat.gcd_dvd_right _ _) (Nat.gcd_dvd_left _ _), Nat.dvd_trans (Nat.gcd_dvd_right _ _) (Nat.gcd_dvd_right _ _)⟩
theorem mH_abs (p q r : S4) : (mH p q r).natAbs = mG p q r := by unfold mH; split <;> omega
theorem tdiv_bd {x h : Int} {B : Int} (hx : -B ≤ x ∧ x ≤ B) (hh : h ≠ 0) : -B ≤ x.tdiv h ∧ x.tdiv h ≤ B := by
  have e := Int.natAbs_tdiv x h
  have : (x.tdiv h).natAbs ≤ x.natAbs := by rw [e]; exact Nat.div_le_self _ _
  omega
theorem mul_tdiv {x h : Int} (hd : h.natAbs ∣ x.natAbs) : h * x.tdiv h = x := Int.mul_tdiv_cancel' (Int.natAbs_dvd_natAbs.mp hd)
theorem wdiv {x h : Int} (hx : -750000000 ≤ x ∧ x ≤ 750000000) (hh : h ≠ 0) : W (x.tdiv h) = x.tdiv h := by
  have := tdiv_bd hx hh
  exact W_id (by omega) (by omega)
theorem meet3_ev {p q r : S4} (hp : Bd4 p) (hq : Bd4 q) (hr : Bd4 r) : Ev (fun k => impl_meet3.f k p q r) (if D3 p q r = 0 then (⟨0, 0, 0, 0⟩, false, ()) else (mS p q r, true, ())) := by
  obtain ⟨bx, by_, bz, bw⟩ := m_bd hp hq hr
  have gl := mG_le hp hq hr
  obtain ⟨⟨a1, a2, a3⟩, a4⟩ := hp
  obtain ⟨⟨b1, b2, b3⟩, b4⟩ := hq
  obtain ⟨⟨c1, c2, c3⟩, c4⟩ := hr
  simp only [v3] at a1 a2 a3 b1 b2 b3 c1 c2 c3
  have na : -500 ≤ -p.d ∧ -p.d ≤ 500 := by omega
  have nb : -500 ≤ -q.d ∧ -q.d ≤ 500 := by omega
  have nc : -500 ≤ -r.d ∧ -r.d ≤ 500 := by omega
  have e1 : W (0 - p.d) = -p.d := W_neg (by omega)
  have e2 : W (0 - q.d) = -q.d := W_neg (by omega)
  have e3 : W (0 - r.d) = -r.d := W_neg (by omega)
  have d0 : ∀ k, impl_det3.f k p q r = some (D3 p q r) := fun k => det3_f k ⟨a1, a2, a3⟩ ⟨b1, b2, b3⟩ ⟨c1, c2, c3⟩
  have d1 : ∀ k, impl_det.f k ⟨-p.d, p.b, p.c⟩ ⟨-q.d, q.b, q.c⟩ ⟨-r.d, r.b, r.c⟩ = some (mX p q r) := fun k => det_f k ⟨na, a2, a3⟩ ⟨nb, b2, b3⟩ ⟨nc, c2, c3⟩
  have d2 : ∀ k, impl_det.f k ⟨p.a, -p.d, p.c⟩ ⟨q.a, -q.d, q.c⟩ ⟨r.a, -r.d, r.c⟩ = some (mY p q r) := fun k => det_f k ⟨a1, na, a3⟩ ⟨b1, nb, b3⟩ ⟨c1, nc, c3⟩
  have d3 : ∀ k, impl_det.f k ⟨p.a, p.b, -p.d⟩ ⟨q.a, q.b, -q.d⟩ ⟨r.a, r.b, -r.d⟩ = some (mZ p q r) := fun k => det_f k ⟨a1, a2, na⟩ ⟨b1, b2, nb⟩ ⟨c1, c2, nc⟩
  unfold impl_meet3.f
  simp only [d0, e1, e2, e3, d1, d2, d3, Option.bind_some, eq_iff]
  by_cases c : D3 p q r = 0
  · simp only [if_pos c]; exact .now fun _ => rfl
  · simp only [if_neg c]
    have gp := mG_pos c
    have hdv := divisor4_ev (a := mX p q r) (b := mY p q r) (c := mZ p q r) (d := D3 p q r) (by omega) (by omega) (by omega) (by omega)
    refine Ev.bind hdv (.now fun k => ?_)
    show (if decide (D3 p q r < 0) = true then _ else _) = _
    rw [show Nat.gcd (Nat.gcd (mX p q r).natAbs (mY p q r).natAbs) (Nat.gcd (mZ p q r).natAbs (D3 p q r).natAbs) = mG p q r from rfl]
    have wn : W (0 - (mG p q r : Int)) = -(mG p q r : Int) := W_neg (by omega)
    simp only [decide_eq_true_eq, wn]
    by_cases n : D3 p q r < 0
    · have hH : mH p q r = -(mG p q r : Int) := if_pos n
      have h0 : ¬ (-(mG p q r : Int) = 0) := by omega
      rw [if_pos n, if_neg h0, if_neg h0, if_neg h0, if_neg h0, wdiv bx h0, wdiv by_ h0, wdiv bz h0, wdiv bw h0]
      unfold mS; rw [hH]
    · have hH : mH p q r = (mG p q r : Int) := if_neg n
      have h0 : ¬ ((mG p q r : Int) = 0) := by omega
      rw [if_neg n, if_neg h0, if_neg h0, if_neg h0, if_neg h0, wdiv bx h0, wdiv by_ h0, wdiv bz h0, wdiv bw h0]
      unfold mS; rw [hH]
theorem l5Meet_ev {p q r : S4} (hp : Bd4 p) (hq : Bd4 q) (hr : Bd4 r) : Ev (fun k => spec_l5Meet.f k p q r) (if D3 p q r = 0 then (⟨0, 0, 0, 0⟩, false, ()) else (mS p q r, true, ())) := by
  obtain ⟨bx, by_, bz, bw⟩ := m_bd hp hq hr
  have gl := mG_le hp hq hr
  obtain ⟨⟨a1, a2, a3⟩, a4⟩ := hp
  obtain ⟨⟨b1, b2, b3⟩, b4⟩ := hq
  obtain ⟨⟨c1, c2, c3⟩, c4⟩ := hr
  simp only [v3] at a1 a2 a3 b1 b2 b3 c1 c2 c3
  have na : -500 ≤ -p.d ∧ -p.d ≤ 500 := by omega
  have nb : -500 ≤ -q.d ∧ -q.d ≤ 500 := by omega
  have nc : -500 ≤ -r.d ∧ -r.d ≤ 500 := by omega
  have e1 : W (0 - p.d) = -p.d := W_neg (by omega)
  have e2 : W (0 - q.d) = -q.d := W_neg (by omega)
  have e3 : W (0 - r.d) = -r.d := W_neg (by omega)
  have d0 : ∀ k, spec_l4Det3.f k p q r = some (D3 p q r) := fun k => l4Det3_f k ⟨a1, a2, a3⟩ ⟨b1, b2, b3⟩ ⟨c1, c2, c3⟩
  have d1 : ∀ k, spec_l4Det3.f k ⟨-p.d, p.b, p.c, 0⟩ ⟨-q.d, q.b, q.c, 0⟩ ⟨-r.d, r.b, r.c, 0⟩ = some (mX p q r) := fun k => l4Det3_f k ⟨na, a2, a3⟩ ⟨nb, b2, b3⟩ ⟨nc, c2, c3⟩
  have d2 : ∀ k, spec_l4Det3.f k ⟨p.a, -p.d, p.c, 0⟩ ⟨q.a, -q.d, q.c, 0⟩ ⟨r.a, -r.d, r.c, 0⟩ = some (mY p q r) := fun k => l4Det3_f k ⟨a1, na, a3⟩ ⟨b1, nb, b3⟩ ⟨c1, nc, c3⟩
  have d3 : ∀ k, spec_l4Det3.f k ⟨p.a, p.b, -p.d, 0⟩ ⟨q.a, q.b, -q.d, 0⟩ ⟨r.a, r.b, -r.d, 0⟩ = some (mZ p q r) := fun k => l4Det3_f k ⟨a1, a2, na⟩ ⟨b1, b2, nb⟩ ⟨c1, c2, nc⟩
  unfold spec_l5Meet.f
  simp only [d0, e1, e2, e3, d1, d2, d3, Option.bind_some, eq_iff]
  by_cases c : D3 p q r = 0
  · simp only [if_pos c]; exact .now fun _ => rfl
  · simp only [if_neg c]
    have gp := mG_pos c
    refine Ev.bind (a := mS p q r) ?_ (.now fun _ => rfl)
    unfold spec_l5Spot.f
    refine Ev.bind (l3Gcd_ev (by omega) (by omega)) ?_
    refine Ev.bind (l3Gcd_ev (by omega) (by omega)) ?_
    have h1 := gcd_le' (x := mX p q r) (y := mY p q r) (N := 750000000) (by omega) (by omega)
    have h2 := gcd_le' (x := mZ p q r) (y := D3 p q r) (N := 750000000) (by omega) (by omega)
    have h3 := l3Gcd_ev (a := ((Nat.gcd (mX p q r).natAbs (mY p q r).natAbs : Nat) : Int)) (b := ((Nat.gcd (mZ p q r).natAbs (D3 p q r).natAbs : Nat) : Int)) (by omega) (by omega)
    simp only [Int.natAbs_natCast] at h3
    refine Ev.bind h3 (.now fun k => ?_)
    rw [show Nat.gcd (Nat.gcd (mX p q r).natAbs (mY p q r).natAbs) (Nat.gcd (mZ p q r).natAbs (D3 p q r).natAbs) = mG p q r from rfl]
    have wn : W (0 - (mG p q r : Int)) = -(mG p q r : Int) := W_neg (by omega)
    simp only [decide_eq_true_eq, wn]
    by_cases n : D3 p q r < 0
    · have hH : mH p q r = -(mG p q r : Int) := if_pos n
      have h0 : ¬ (-(mG p q r : Int) = 0) := by omega
      rw [if_pos n, if_neg h0, if_neg h0, if_neg h0, if_neg h0, wdiv bx h0, wdiv by_ h0, wdiv bz h0, wdiv bw h0]
      unfold mS; rw [hH]
    · have hH : mH p q r = (mG p q r : Int) := if_neg n
      have h0 : ¬ ((mG p q r : Int) = 0) := by omega
      rw [if_neg n, if_neg h0, if_neg h0, if_neg h0, if_neg h0, wdiv bx h0, wdiv by_ h0, wdiv bz h0, wdiv bw h0]
      unfold mS; rw [hH]
theorem cramer (p q r s : S4) : s.a * mX p q r + s.b * mY p q r + s.c * mZ p q r + s.d * D3 p q r = D4 p q r s := by
  simp only [mX, mY, mZ, D3, D4, dt, ip, cx, v3]; grind
theorem D4_self1 (p q r : S4) : D4 p q r p = 0 := by simp only [D4, dt, ip, cx, v3]; grind
theorem D4_self2 (p q r : S4) : D4 p q r q = 0 := by simp only [D4, dt, ip, cx, v3]; grind
theorem D4_self3 (p q r : S4) : D4 p q r r = 0 := by simp only [D4, dt, ip, cx, v3]; grind
section
variable {p q r : S4} (hp : Bd4 p) (hq : Bd4 q) (hr : Bd4 r) (h : D3 p q r ≠ 0)
include h
theorem mH_ne : mH p q r ≠ 0 := by have := mG_pos h; have := mH_abs p q r; omega
omit h in
theorem mS_mul : mH p q r * (mS p q r).a = mX p q r ∧ mH p q r * (mS p q r).b = mY p q r ∧ mH p q r * (mS p q r).c = mZ p q r ∧ mH p q r * (mS p q r).d = D3 p q r := by
  obtain ⟨⟨d1, d2⟩, d3, d4⟩ := mG_dvd p q r
  exact ⟨mul_tdiv (by rw [mH_abs]; exact d1), mul_tdiv (by rw [mH_abs]; exact d2), mul_tdiv (by rw [mH_abs]; exact d3), mul_tdiv (by rw [mH_abs]; exact d4)⟩
include hp hq hr
theorem mS_ok : spk (mS p q r) = true := by
  obtain ⟨bx, by_, bz, bw⟩ := m_bd hp hq hr
  have hne := mH_ne h
  have tx := tdiv_bd bx hne; have ty := tdiv_bd by_ hne; have tz := tdiv_bd bz hne; have tw := tdiv_bd bw hne
  obtain ⟨_, _, _, m4⟩ := mS_mul (p := p) (q := q) (r := r)
  have hd1 : 1 ≤ (mS p q r).d := by
    have gp := mG_pos h
    unfold mH at m4
    by_cases n : D3 p q r < 0
    · rw [if_pos n] at m4
      by_cases z : (mS p q r).d ≤ 0
      · have := Int.mul_nonneg (show 0 ≤ (mG p q r : Int) by omega) (show 0 ≤ -(mS p q r).d by omega)
        rw [Int.neg_mul] at m4
        rw [Int.mul_neg] at this; omega
      · omega
    · rw [if_neg n] at m4
      by_cases z : (mS p q r).d ≤ 0
      · have := Int.mul_nonneg (show 0 ≤ (mG p q r : Int) by omega) (show 0 ≤ -(mS p q r).d by omega)
        rw [Int.mul_neg] at this; omega
      · omega
  have hg : Nat.gcd (Nat.gcd (mS p q r).a.natAbs (mS p q r).b.natAbs) (Nat.gcd (mS p q r).c.natAbs (mS p q r).d.natAbs) = 1 := by
    obtain ⟨⟨d1, d2⟩, d3, d4⟩ := mG_dvd p q r
    simp only [mS, Int.natAbs_tdiv, mH_abs]
    show Nat.gcd (Nat.gcd ((mX p q r).natAbs / mG p q r) ((mY p q r).natAbs / mG p q r)) (Nat.gcd ((mZ p q r).natAbs / mG p q r) ((D3 p q r).natAbs / mG p q r)) = 1
    rw [Nat.gcd_div d1 d2, Nat.gcd_div d3 d4, Nat.gcd_div (Nat.dvd_gcd d1 d2) (Nat.dvd_gcd d3 d4)]
    exact Nat.div_self (mG_pos h)
  unfold spk
  rw [hg, Bool.and_eq_true, decide_eq_true_iff]
  refine ⟨⟨⟨hd1, ?_⟩, ?_, ?_, ?_⟩, rfl⟩
  · show (D3 p q r).tdiv (mH p q r) ≤ 1000000000; omega
  · show -1000000000 ≤ (mX p q r).tdiv (mH p q r) ∧ (mX p q r).tdiv (mH p q r) ≤ 1000000000; omega
  · show -1000000000 ≤ (mY p q r).tdiv (mH p q r) ∧ (mY p q r).tdiv (mH p q r) ≤ 1000000000; omega
  · show -1000000000 ≤ (mZ p q r).tdiv (mH p q r) ∧ (mZ p q r).tdiv (mH p q r) ≤ 1000000000; omega
theorem sd_eq {s : S4} (hs : Bd4 s) : ∃ v : Int, sd s (mS p q r) = sgn v ∧ mH p q r * v = D4 p q r s := by
  obtain ⟨m1, m2, m3, m4⟩ := mS_mul (p := p) (q := q) (r := r)
  have hok := mS_ok hp hq hr h
  unfold spk at hok
  rw [Bool.and_eq_true, decide_eq_true_iff] at hok
  obtain ⟨⟨w, x, y, z⟩, _⟩ := hok
  obtain ⟨⟨a1, a2, a3⟩, a4⟩ := hs
  simp only [v3] at a1 a2 a3
  have w' : -1000000000 ≤ (mS p q r).d ∧ (mS p q r).d ≤ 1000000000 := by omega
  have n1 := mul_bd a1 x; have n2 := mul_bd a2 y; have n3 := mul_bd a3 z; have n4 := mul_bd a4 w'
  refine ⟨s.a * (mS p q r).a + s.b * (mS p q r).b + s.c * (mS p q r).c + s.d * (mS p q r).d, ?_, ?_⟩
  · unfold sd
    simp only [W_add_l, W_add_r]
    rw [W_id (by omega) (by omega)]
  · rw [← cramer p q r s, ← m1, ← m2, ← m3, ← m4]; grind
end
theorem toPlaneS_l3 {l : List S4} (hl : l.length ≤ 2097152) : ∀ (d i : Nat), l.length - i = d → i ≤ l.length → ∀ o : List S4, o.length = l.length → (∀ j : Nat, j < i → o[j]? = l[j]?) → Lv (fun k m => laws_toPlaneS.l3 k m l (i : Int) o) (((), ()), (l, ())) := by
  intro d
  induction d with
  | zero =>
    intro i hd hi o ho hj
    have e : o = l := List.ext_getElem? fun j => by
      by_cases c : j < i
      · exact hj j c
      · rw [List.getElem?_eq_none (by omega), List.getElem?_eq_none (by omega)]
    subst e
    refine Lv.step (g := fun k m => laws_toPlaneS.s3 k (laws_toPlaneS.l3 k m) o (i : Int) o) ?_ (fun _ _ => rfl)
    simp only [laws_toPlaneS.s3, decide_eq_true_eq, if_neg (show ¬ (i : Int) < (o.length : Int) by omega)]
    exact .now fun _ _ => rfl
  | succ d ih =>
    intro i hd hi o ho hj
    have hi' : i < l.length := by omega
    refine Lv.step (g := fun k m => laws_toPlaneS.s3 k (laws_toPlaneS.l3 k m) l (i : Int) o) ?_ (fun _ _ => rfl)
    simp only [laws_toPlaneS.s3, laws_toPlane.f, Option.bind_some, decide_eq_true_eq, if_pos (show (i : Int) < (l.length : Int) by omega), if_pos (show (i : Int) < (o.length : Int) by omega), if_pos (Int.natCast_nonneg _), Int.toNat_natCast, if_pos (show i < o.length by omega), wrn hi' hl]
    refine ih (i + 1) (by omega) (by omega) _ (by simp [ho]) fun j hj' => ?_
    rw [List.getElem?_set]
    by_cases c : i = j
    · subst c; rw [if_pos rfl, if_pos (by omega), rd_in hi', List.getElem?_eq_getElem hi']
    · rw [if_neg c]; exact hj j (by omega)
theorem toPlaneS_ev {l : List S4} (hl : l.length ≤ 2097152) : Ev (fun k => laws_toPlaneS.f k l) l := by
  simp only [laws_toPlaneS.f, if_pos (Int.natCast_nonneg _), Int.toNat_natCast, if_pos (lt47_ok (show l.length < 2199023255552 by omega))]
  exact (toPlaneS_l3 hl l.length 0 (by omega) (by omega) _ (by simp) (fun j hj => absurd hj (Nat.not_lt_zero j))).ev.one
theorem eqPlane_self' (k : Nat) (p : S4) : laws_eqPlane.f k p p = some true := by simp [laws_eqPlane.f]
theorem eqPlaneS_l4 {l : List S4} (hl : l.length ≤ 2097152) : ∀ (d i : Nat), l.length - i = d → i ≤ l.length → Lv (fun k m => laws_eqPlaneS.l4 k m l l (i : Int)) (.inr ((), ())) := by
  intro d
  induction d with
  | zero =>
    intro i hd hi
    refine Lv.step (g := fun k m => laws_eqPlaneS.s4 k (laws_eqPlaneS.l4 k m) l l (i : Int)) ?_ (fun _ _ => rfl)
    simp only [laws_eqPlaneS.s4, decide_eq_true_eq, if_neg (show ¬ (i : Int) < (l.length : Int) by omega)]
    exact .now fun _ _ => rfl
  | succ d ih =>
    intro i hd hi
    have hi' : i < l.length := by omega
    refine Lv.step (g := fun k m => laws_eqPlaneS.s4 k (laws_eqPlaneS.l4 k m) l l (i : Int)) ?_ (fun _ _ => rfl)
    simp only [laws_eqPlaneS.s4, eqPlane_self', Option.bind_some, decide_eq_true_eq, if_pos (show (i : Int) < (l.length : Int) by omega), if_pos (Int.natCast_nonneg _), wrn hi' hl, Bool.not_true, Bool.false_eq_true, if_false]
    exact ih (i + 1) (by omega) (by omega)
theorem eqPlaneS_ev {l : List S4} (hl : l.length ≤ 2097152) : Ev (fun k => laws_eqPlaneS.f k l l) true := by
  simp only [laws_eqPlaneS.f, ne_iff, ne_eq, not_true_eq_false, if_false]
  exact (eqPlaneS_l4 hl l.length 0 (by omega) (by omega)).ev.bind (.now fun _ => rfl)
theorem markPlaneS_l2 {n : Nat} (hl : n ≤ 2097152) : ∀ (d i : Nat), n - i = d → i ≤ n → ∀ o : List S4, o.length = n → ∃ r : List S4, Lv (fun k m => laws_markPlaneS.l2 k m (1 + 4 * (i : Int)) (i : Int) o) (((), 1 + 4 * (n : Int), ()), (r, ())) := by
  intro d
  induction d with
  | zero =>
    intro i hd hi o ho
    obtain rfl : i = n := by omega
    refine ⟨o, ?_⟩
    refine Lv.step (g := fun k m => laws_markPlaneS.s2 k (laws_markPlaneS.l2 k m) (1 + 4 * (i : Int)) (i : Int) o) ?_ (fun _ _ => rfl)
    simp only [laws_markPlaneS.s2, decide_eq_true_eq, if_neg (show ¬ (i : Int) < (o.length : Int) by omega)]
    exact .now fun _ _ => rfl
  | succ d ih =>
    intro i hd hi o ho
    have hi' : i < o.length := by omega
    have w0 : W ((i : Int) + 1) = ((i + 1 : Nat) : Int) := by rw [W_id (by omega) (by omega)]; omega
    have w1 : W (1 + 4 * (i : Int) + 1) = 4 * (i : Int) + 2 := by rw [W_id (by omega) (by omega)]; omega
    have w2 : W (4 * (i : Int) + 2 + 1) = 4 * (i : Int) + 3 := by rw [W_id (by omega) (by omega)]; omega
    have w3 : W (4 * (i : Int) + 3 + 1) = 4 * (i : Int) + 4 := by rw [W_id (by omega) (by omega)]; omega
    have w4 : W (4 * (i : Int) + 4 + 1) = 1 + 4 * ((i + 1 : Nat) : Int) := by rw [W_id (by omega) (by omega)]; omega
    have key : ∀ o' : List S4, o'.length = n → ∃ r : List S4, Lv (fun k m => laws_markPlaneS.l2 k m (1 + 4 * ((i + 1 : Nat) : Int)) ((i + 1 : Nat) : Int) o') (((), 1 + 4 * (n : Int), ()), (r, ())) := ih (i + 1) (by omega) (by omega)
    have st : ∃ r : List S4, Lv (fun k m => laws_markPlaneS.s2 k (laws_markPlaneS.l2 k m) (1 + 4 * (i : Int)) (i : Int) o) (((), 1 + 4 * (n : Int), ()), (r, ())) := by
      simp only [laws_markPlaneS.s2, decide_eq_true_eq, List.length_set, Int.toNat_natCast, if_pos (show (i : Int) < (o.length : Int) by omega), if_pos (Int.natCast_nonneg _), if_pos hi', w0, w1, w2, w3, w4]
      exact key _ (by simp only [List.length_set]; exact ho)
    obtain ⟨r, hr⟩ := st
    exact ⟨r, Lv.step hr (fun _ _ => rfl)⟩
theorem markPlaneS_ev {l : List S4} (hl : l.length ≤ 2097152) : ∃ r : List S4, Ev (fun k => laws_markPlaneS.f k l 1) (1 + 4 * (l.length : Int), r) := by
  obtain ⟨r, h⟩ := markPlaneS_l2 hl l.length 0 (by omega) (by omega) l rfl
  refine ⟨r, ?_⟩
  simp only [laws_markPlaneS.f]
  exact h.ev.one (g := fun x1 => (x1.1.2.1, x1.2.1))
def opV (L : List S4) : Bool := L.all okp && decide (L.length ≤ 24) && opn L
theorem iOpen_ev {L : List S4} (hl : L.length ≤ 2097152) : Ev (fun k => impl_Open.f k L) (opV L) := by
  simp only [impl_Open.f, decide_eq_true_eq]
  unfold opV
  by_cases c : L.length ≤ 24
  · simp only [if_pos (show (L.length : Int) ≤ 24 by omega)]
    refine (planesOk_ev hl).bind ?_
    cases ha : L.all okp with
    | false => exact .now fun _ => rfl
    | true =>
      simp only [if_true, c, decide_true, Bool.and_self, Bool.true_and]
      exact (open_ev (fun p hp => List.all_eq_true.1 ha p hp) hl).bind (.now fun _ => rfl)
  · simp only [if_neg (show ¬ (L.length : Int) ≤ 24 by omega), c, decide_false, Bool.and_false, Bool.false_and]
    exact .now fun _ => rfl
theorem sOpen_ev {L : List S4} (hl : L.length ≤ 2097152) : Ev (fun k => spec_Open.f k L) (opV L) := by
  simp only [spec_Open.f]
  unfold opV
  refine (l6Right_ev hl).bind ?_
  cases ha : L.all okp && decide (L.length ≤ 24) with
  | false => exact .now fun _ => rfl
  | true =>
    rw [Bool.and_eq_true] at ha
    simp only [if_true, Bool.true_and]
    exact (l6Open_ev (fun p hp => List.all_eq_true.1 ha.1 p hp) hl).bind (.now fun _ => rfl)
end Go.Proofs.Ytlkcpldohlemcaa.Q
