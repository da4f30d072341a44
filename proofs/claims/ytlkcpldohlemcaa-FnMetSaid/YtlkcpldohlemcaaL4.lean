/- FnMet: the point that three planes have together. -/
import Derived.Test.YtlkcpldohlemcaaL2
namespace Go.Proofs.Ytlkcpldohlemcaa.Q
open Go Go.RowKit Go.Proofs Go.Proofs.Ytlkcpldohlemcaa.Ev Go.Proofs.Ytlkcpldohlemcaa.G
set_option linter.unusedSimpArgs false
set_option linter.unusedVariables false

/-- the numbers of the point, by the rule of determinants. -/
def mX (p q r : S4) : Int := dt ⟨-p.d, p.b, p.c⟩ ⟨-q.d, q.b, q.c⟩ ⟨-r.d, r.b, r.c⟩
def mY (p q r : S4) : Int := dt ⟨p.a, -p.d, p.c⟩ ⟨q.a, -q.d, q.c⟩ ⟨r.a, -r.d, r.c⟩
def mZ (p q r : S4) : Int := dt ⟨p.a, p.b, -p.d⟩ ⟨q.a, q.b, -q.d⟩ ⟨r.a, r.b, -r.d⟩
def mG (p q r : S4) : Nat := Nat.gcd (Nat.gcd (mX p q r).natAbs (mY p q r).natAbs) (Nat.gcd (mZ p q r).natAbs (D3 p q r).natAbs)
/-- the divisor with the sign of the fourth. -/
def mH (p q r : S4) : Int := if D3 p q r < 0 then -(mG p q r : Int) else (mG p q r : Int)
def mS (p q r : S4) : S4 := ⟨(mX p q r).tdiv (mH p q r), (mY p q r).tdiv (mH p q r), (mZ p q r).tdiv (mH p q r), (D3 p q r).tdiv (mH p q r)⟩
theorem m_bd {p q r : S4} (hp : Bd4 p) (hq : Bd4 q) (hr : Bd4 r) : (-750000000 ≤ mX p q r ∧ mX p q r ≤ 750000000) ∧ (-750000000 ≤ mY p q r ∧ mY p q r ≤ 750000000) ∧ (-750000000 ≤ mZ p q r ∧ mZ p q r ≤ 750000000) ∧ (-750000000 ≤ D3 p q r ∧ D3 p q r ≤ 750000000) := by
  obtain ⟨⟨a1, a2, a3⟩, a4⟩ := hp
  obtain ⟨⟨b1, b2, b3⟩, b4⟩ := hq
  obtain ⟨⟨c1, c2, c3⟩, c4⟩ := hr
  simp only [v3] at a1 a2 a3 b1 b2 b3 c1 c2 c3
  have na : -500 ≤ -p.d ∧ -p.d ≤ 500 := by omega
  have nb : -500 ≤ -q.d ∧ -q.d ≤ 500 := by omega
  have nc : -500 ≤ -r.d ∧ -r.d ≤ 500 := by omega
  exact ⟨dt_bd ⟨na, a2, a3⟩ ⟨nb, b2, b3⟩ ⟨nc, c2, c3⟩, dt_bd ⟨a1, na, a3⟩ ⟨b1, nb, b3⟩ ⟨c1, nc, c3⟩, dt_bd ⟨a1, a2, na⟩ ⟨b1, b2, nb⟩ ⟨c1, c2, nc⟩, dt_bd ⟨a1, a2, a3⟩ ⟨b1, b2, b3⟩ ⟨c1, c2, c3⟩⟩
theorem mG_le {p q r : S4} (hp : Bd4 p) (hq : Bd4 q) (hr : Bd4 r) : mG p q r ≤ 750000000 := by
  obtain ⟨bx, by_, bz, bw⟩ := m_bd hp hq hr
  have h1 := gcd_le' (x := mX p q r) (y := mY p q r) (N := 750000000) (by omega) (by omega)
  have h2 := gcd_le' (x := mZ p q r) (y := D3 p q r) (N := 750000000) (by omega) (by omega)
  have h3 := gcd_le' (x := ((Nat.gcd (mX p q r).natAbs (mY p q r).natAbs : Nat) : Int)) (y := ((Nat.gcd (mZ p q r).natAbs (D3 p q r).natAbs : Nat) : Int)) (N := 750000000) (by omega) (by omega)
  simp only [Int.natAbs_natCast] at h3
  exact h3
theorem mG_pos {p q r : S4} (h : D3 p q r ≠ 0) : 0 < mG p q r := by
  refine Nat.pos_of_ne_zero fun e => h ?_
  have := Nat.eq_zero_of_gcd_eq_zero_right (Nat.eq_zero_of_gcd_eq_zero_right e)
  omega
theorem mG_dvd (p q r : S4) : (mG p q r ∣ (mX p q r).natAbs ∧ mG p q r ∣ (mY p q r).natAbs) ∧ mG p q r ∣ (mZ p q r).natAbs ∧ mG p q r ∣ (D3 p q r).natAbs :=
  ⟨⟨Nat.dvd_trans (Nat.gcd_dvd_left _ _) (Nat.gcd_dvd_left _ _), Nat.dvd_trans (Nat.gcd_dvd_left _ _) (Nat.gcd_dvd_right _ _)⟩, Nat.dvd_trans (Nat.gcd_dvd_right _ _) (Nat.gcd_dvd_left _ _), Nat.dvd_trans (Nat.gcd_dvd_right _ _) (Nat.gcd_dvd_right _ _)⟩
theorem mH_abs (p q r : S4) : (mH p q r).natAbs = mG p q r := by unfold mH; split <;> omega
theorem tdiv_bd {x h : Int} {B : Int} (hx : -B ≤ x ∧ x ≤ B) (hh : h ≠ 0) : -B ≤ x.tdiv h ∧ x.tdiv h ≤ B := by
  have e := Int.natAbs_tdiv x h
  have : (x.tdiv h).natAbs ≤ x.natAbs := by rw [e]; exact Nat.div_le_self _ _
  omega
theorem mul_tdiv {x h : Int} (hd : h.natAbs ∣ x.natAbs) : h * x.tdiv h = x := Int.mul_tdiv_cancel' (Int.natAbs_dvd_natAbs.mp hd)
theorem wdiv {x h : Int} (hx : -750000000 ≤ x ∧ x ≤ 750000000) (hh : h ≠ 0) : W (x.tdiv h) = x.tdiv h := by
  have := tdiv_bd hx hh
  exact W_id (by omega) (by omega)
theorem meet3_ev {p q r : S4} (hp : Bd4 p) (hq : Bd4 q) (hr : Bd4 r) : Ev (fun k => impl_meet3.f k p q r) (if D3 p q r = 0 then (⟨0, 0, 0, 0⟩, false, ()) else (mS p q r, true, ())) := by
  obtain ⟨bx, by_, bz, bw⟩ := m_bd hp hq hr
  have gl := mG_le hp hq hr
  obtain ⟨⟨a1, a2, a3⟩, a4⟩ := hp
  obtain ⟨⟨b1, b2, b3⟩, b4⟩ := hq
  obtain ⟨⟨c1, c2, c3⟩, c4⟩ := hr
  simp only [v3] at a1 a2 a3 b1 b2 b3 c1 c2 c3
  have na : -500 ≤ -p.d ∧ -p.d ≤ 500 := by omega
  have nb : -500 ≤ -q.d ∧ -q.d ≤ 500 := by omega
  have nc : -500 ≤ -r.d ∧ -r.d ≤ 500 := by omega
  have e1 : W (0 - p.d) = -p.d := W_neg (by omega)
  have e2 : W (0 - q.d) = -q.d := W_neg (by omega)
  have e3 : W (0 - r.d) = -r.d := W_neg (by omega)
  have d0 : ∀ k, impl_det3.f k p q r = some (D3 p q r) := fun k => det3_f k ⟨a1, a2, a3⟩ ⟨b1, b2, b3⟩ ⟨c1, c2, c3⟩
  have d1 : ∀ k, impl_det.f k ⟨-p.d, p.b, p.c⟩ ⟨-q.d, q.b, q.c⟩ ⟨-r.d, r.b, r.c⟩ = some (mX p q r) := fun k => det_f k ⟨na, a2, a3⟩ ⟨nb, b2, b3⟩ ⟨nc, c2, c3⟩
  have d2 : ∀ k, impl_det.f k ⟨p.a, -p.d, p.c⟩ ⟨q.a, -q.d, q.c⟩ ⟨r.a, -r.d, r.c⟩ = some (mY p q r) := fun k => det_f k ⟨a1, na, a3⟩ ⟨b1, nb, b3⟩ ⟨c1, nc, c3⟩
  have d3 : ∀ k, impl_det.f k ⟨p.a, p.b, -p.d⟩ ⟨q.a, q.b, -q.d⟩ ⟨r.a, r.b, -r.d⟩ = some (mZ p q r) := fun k => det_f k ⟨a1, a2, na⟩ ⟨b1, b2, nb⟩ ⟨c1, c2, nc⟩
  unfold impl_meet3.f
  simp only [d0, e1, e2, e3, d1, d2, d3, Option.bind_some, eq_iff]
  by_cases c : D3 p q r = 0
  · simp only [if_pos c]; exact .now fun _ => rfl
  · simp only [if_neg c]
    have gp := mG_pos c
    have hdv := divisor4_ev (a := mX p q r) (b := mY p q r) (c := mZ p q r) (d := D3 p q r) (by omega) (by omega) (by omega) (by omega)
    refine Ev.bind hdv (.now fun k => ?_)
    show (if decide (D3 p q r < 0) = true then _ else _) = _
    rw [show Nat.gcd (Nat.gcd (mX p q r).natAbs (mY p q r).natAbs) (Nat.gcd (mZ p q r).natAbs (D3 p q r).natAbs) = mG p q r from rfl]
    have wn : W (0 - (mG p q r : Int)) = -(mG p q r : Int) := W_neg (by omega)
    simp only [decide_eq_true_eq, wn]
    by_cases n : D3 p q r < 0
    · have hH : mH p q r = -(mG p q r : Int) := if_pos n
      have h0 : ¬ (-(mG p q r : Int) = 0) := by omega
      rw [if_pos n, if_neg h0, if_neg h0, if_neg h0, if_neg h0, wdiv bx h0, wdiv by_ h0, wdiv bz h0, wdiv bw h0]
      unfold mS; rw [hH]
    · have hH : mH p q r = (mG p q r : Int) := if_neg n
      have h0 : ¬ ((mG p q r : Int) = 0) := by omega
      rw [if_neg n, if_neg h0, if_neg h0, if_neg h0, if_neg h0, wdiv bx h0, wdiv by_ h0, wdiv bz h0, wdiv bw h0]
      unfold mS; rw [hH]
theorem l5Meet_ev {p q r : S4} (hp : Bd4 p) (hq : Bd4 q) (hr : Bd4 r) : Ev (fun k => spec_l5Meet.f k p q r) (if D3 p q r = 0 then (⟨0, 0, 0, 0⟩, false, ()) else (mS p q r, true, ())) := by
  obtain ⟨bx, by_, bz, bw⟩ := m_bd hp hq hr
  have gl := mG_le hp hq hr
  obtain ⟨⟨a1, a2, a3⟩, a4⟩ := hp
  obtain ⟨⟨b1, b2, b3⟩, b4⟩ := hq
  obtain ⟨⟨c1, c2, c3⟩, c4⟩ := hr
  simp only [v3] at a1 a2 a3 b1 b2 b3 c1 c2 c3
  have na : -500 ≤ -p.d ∧ -p.d ≤ 500 := by omega
  have nb : -500 ≤ -q.d ∧ -q.d ≤ 500 := by omega
  have nc : -500 ≤ -r.d ∧ -r.d ≤ 500 := by omega
  have e1 : W (0 - p.d) = -p.d := W_neg (by omega)
  have e2 : W (0 - q.d) = -q.d := W_neg (by omega)
  have e3 : W (0 - r.d) = -r.d := W_neg (by omega)
  have d0 : ∀ k, spec_l4Det3.f k p q r = some (D3 p q r) := fun k => l4Det3_f k ⟨a1, a2, a3⟩ ⟨b1, b2, b3⟩ ⟨c1, c2, c3⟩
  have d1 : ∀ k, spec_l4Det3.f k ⟨-p.d, p.b, p.c, 0⟩ ⟨-q.d, q.b, q.c, 0⟩ ⟨-r.d, r.b, r.c, 0⟩ = some (mX p q r) := fun k => l4Det3_f k ⟨na, a2, a3⟩ ⟨nb, b2, b3⟩ ⟨nc, c2, c3⟩
  have d2 : ∀ k, spec_l4Det3.f k ⟨p.a, -p.d, p.c, 0⟩ ⟨q.a, -q.d, q.c, 0⟩ ⟨r.a, -r.d, r.c, 0⟩ = some (mY p q r) := fun k => l4Det3_f k ⟨a1, na, a3⟩ ⟨b1, nb, b3⟩ ⟨c1, nc, c3⟩
  have d3 : ∀ k, spec_l4Det3.f k ⟨p.a, p.b, -p.d, 0⟩ ⟨q.a, q.b, -q.d, 0⟩ ⟨r.a, r.b, -r.d, 0⟩ = some (mZ p q r) := fun k => l4Det3_f k ⟨a1, a2, na⟩ ⟨b1, b2, nb⟩ ⟨c1, c2, nc⟩
  unfold spec_l5Meet.f
  simp only [d0, e1, e2, e3, d1, d2, d3, Option.bind_some, eq_iff]
  by_cases c : D3 p q r = 0
  · simp only [if_pos c]; exact .now fun _ => rfl
  · simp only [if_neg c]
    have gp := mG_pos c
    refine Ev.bind (a := mS p q r) ?_ (.now fun _ => rfl)
    unfold spec_l5Spot.f
    refine Ev.bind (l3Gcd_ev (by omega) (by omega)) ?_
    refine Ev.bind (l3Gcd_ev (by omega) (by omega)) ?_
    have h1 := gcd_le' (x := mX p q r) (y := mY p q r) (N := 750000000) (by omega) (by omega)
    have h2 := gcd_le' (x := mZ p q r) (y := D3 p q r) (N := 750000000) (by omega) (by omega)
    have h3 := l3Gcd_ev (a := ((Nat.gcd (mX p q r).natAbs (mY p q r).natAbs : Nat) : Int)) (b := ((Nat.gcd (mZ p q r).natAbs (D3 p q r).natAbs : Nat) : Int)) (by omega) (by omega)
    simp only [Int.natAbs_natCast] at h3
    refine Ev.bind h3 (.now fun k => ?_)
    rw [show Nat.gcd (Nat.gcd (mX p q r).natAbs (mY p q r).natAbs) (Nat.gcd (mZ p q r).natAbs (D3 p q r).natAbs) = mG p q r from rfl]
    have wn : W (0 - (mG p q r : Int)) = -(mG p q r : Int) := W_neg (by omega)
    simp only [decide_eq_true_eq, wn]
    by_cases n : D3 p q r < 0
    · have hH : mH p q r = -(mG p q r : Int) := if_pos n
      have h0 : ¬ (-(mG p q r : Int) = 0) := by omega
      rw [if_pos n, if_neg h0, if_neg h0, if_neg h0, if_neg h0, wdiv bx h0, wdiv by_ h0, wdiv bz h0, wdiv bw h0]
      unfold mS; rw [hH]
    · have hH : mH p q r = (mG p q r : Int) := if_neg n
      have h0 : ¬ ((mG p q r : Int) = 0) := by omega
      rw [if_neg n, if_neg h0, if_neg h0, if_neg h0, if_neg h0, wdiv bx h0, wdiv by_ h0, wdiv bz h0, wdiv bw h0]
      unfold mS; rw [hH]
theorem Meet3_ev {p q r : S4} (hp : okp p = true) (hq : okp q = true) (hr : okp r = true) : Ev (fun k => impl_Meet3.f k p q r) (if D3 p q r = 0 then (⟨0, 0, 0, 0⟩, false, ()) else (mS p q r, true, ())) := by
  unfold impl_Meet3.f
  refine Ev.bind (impl_PlaneOk_ev p) ?_
  simp only [hp, Bool.not_true, Bool.false_eq_true, if_false]
  refine Ev.bind (impl_PlaneOk_ev q) ?_
  simp only [hq, Bool.not_true, Bool.false_eq_true, if_false]
  refine Ev.bind (impl_PlaneOk_ev r) ?_
  simp only [hr, Bool.not_true, Bool.false_eq_true, if_false]
  exact Ev.bind (meet3_ev (okp_bd4 hp) (okp_bd4 hq) (okp_bd4 hr)) (.now fun _ => rfl)
theorem sMeet3_ev {p q r : S4} (hp : okp p = true) (hq : okp q = true) (hr : okp r = true) : Ev (fun k => spec_Meet3.f k p q r) (if D3 p q r = 0 then (⟨0, 0, 0, 0⟩, false, ()) else (mS p q r, true, ())) := by
  unfold spec_Meet3.f
  refine Ev.bind (spec_PlaneOk_ev p) ?_
  simp only [hp, Bool.not_true, Bool.false_eq_true, if_false]
  refine Ev.bind (spec_PlaneOk_ev q) ?_
  simp only [hq, Bool.not_true, Bool.false_eq_true, if_false]
  refine Ev.bind (spec_PlaneOk_ev r) ?_
  simp only [hr, Bool.not_true, Bool.false_eq_true, if_false]
  exact Ev.bind (l5Meet_ev (okp_bd4 hp) (okp_bd4 hq) (okp_bd4 hr)) (.now fun _ => rfl)
theorem Meet3_no {p q r : S4} (h : ¬ (okp p = true ∧ okp q = true ∧ okp r = true)) : Ev (fun k => impl_Meet3.f k p q r) (⟨0, 0, 0, 0⟩, false, ()) ∧ Ev (fun k => spec_Meet3.f k p q r) (⟨0, 0, 0, 0⟩, false, ()) := by
  unfold impl_Meet3.f spec_Meet3.f
  constructor
  · refine Ev.bind (impl_PlaneOk_ev p) ?_
    cases hp : okp p
    · exact .now fun _ => rfl
    refine Ev.bind (impl_PlaneOk_ev q) ?_
    cases hq : okp q
    · exact .now fun _ => rfl
    refine Ev.bind (impl_PlaneOk_ev r) ?_
    cases hr : okp r
    · exact .now fun _ => rfl
    exact absurd ⟨hp, hq, hr⟩ h
  · refine Ev.bind (spec_PlaneOk_ev p) ?_
    cases hp : okp p
    · exact .now fun _ => rfl
    refine Ev.bind (spec_PlaneOk_ev q) ?_
    cases hq : okp q
    · exact .now fun _ => rfl
    refine Ev.bind (spec_PlaneOk_ev r) ?_
    cases hr : okp r
    · exact .now fun _ => rfl
    exact absurd ⟨hp, hq, hr⟩ h
theorem cramer (p q r s : S4) : s.a * mX p q r + s.b * mY p q r + s.c * mZ p q r + s.d * D3 p q r = D4 p q r s := by
  simp only [mX, mY, mZ, D3, D4, dt, ip, cx, v3]; grind
theorem D4_self1 (p q r : S4) : D4 p q r p = 0 := by simp only [D4, dt, ip, cx, v3]; grind
theorem D4_self2 (p q r : S4) : D4 p q r q = 0 := by simp only [D4, dt, ip, cx, v3]; grind
theorem D4_self3 (p q r : S4) : D4 p q r r = 0 := by simp only [D4, dt, ip, cx, v3]; grind
section
variable {p q r : S4} (hp : Bd4 p) (hq : Bd4 q) (hr : Bd4 r) (h : D3 p q r ≠ 0)
include h
theorem mH_ne : mH p q r ≠ 0 := by have := mG_pos h; have := mH_abs p q r; omega
omit h in
theorem mS_mul : mH p q r * (mS p q r).a = mX p q r ∧ mH p q r * (mS p q r).b = mY p q r ∧ mH p q r * (mS p q r).c = mZ p q r ∧ mH p q r * (mS p q r).d = D3 p q r := by
  obtain ⟨⟨d1, d2⟩, d3, d4⟩ := mG_dvd p q r
  exact ⟨mul_tdiv (by rw [mH_abs]; exact d1), mul_tdiv (by rw [mH_abs]; exact d2), mul_tdiv (by rw [mH_abs]; exact d3), mul_tdiv (by rw [mH_abs]; exact d4)⟩
include hp hq hr
theorem mS_ok : spk (mS p q r) = true := by
  obtain ⟨bx, by_, bz, bw⟩ := m_bd hp hq hr
  have hne := mH_ne h
  have tx := tdiv_bd bx hne; have ty := tdiv_bd by_ hne; have tz := tdiv_bd bz hne; have tw := tdiv_bd bw hne
  obtain ⟨_, _, _, m4⟩ := mS_mul (p := p) (q := q) (r := r)
  have hd1 : 1 ≤ (mS p q r).d := by
    have gp := mG_pos h
    unfold mH at m4
    by_cases n : D3 p q r < 0
    · rw [if_pos n] at m4
      by_cases z : (mS p q r).d ≤ 0
      · have := Int.mul_nonneg (show 0 ≤ (mG p q r : Int) by omega) (show 0 ≤ -(mS p q r).d by omega)
        rw [Int.neg_mul] at m4
        rw [Int.mul_neg] at this; omega
      · omega
    · rw [if_neg n] at m4
      by_cases z : (mS p q r).d ≤ 0
      · have := Int.mul_nonneg (show 0 ≤ (mG p q r : Int) by omega) (show 0 ≤ -(mS p q r).d by omega)
        rw [Int.mul_neg] at this; omega
      · omega
  have hg : Nat.gcd (Nat.gcd (mS p q r).a.natAbs (mS p q r).b.natAbs) (Nat.gcd (mS p q r).c.natAbs (mS p q r).d.natAbs) = 1 := by
    obtain ⟨⟨d1, d2⟩, d3, d4⟩ := mG_dvd p q r
    simp only [mS, Int.natAbs_tdiv, mH_abs]
    show Nat.gcd (Nat.gcd ((mX p q r).natAbs / mG p q r) ((mY p q r).natAbs / mG p q r)) (Nat.gcd ((mZ p q r).natAbs / mG p q r) ((D3 p q r).natAbs / mG p q r)) = 1
    rw [Nat.gcd_div d1 d2, Nat.gcd_div d3 d4, Nat.gcd_div (Nat.dvd_gcd d1 d2) (Nat.dvd_gcd d3 d4)]
    exact Nat.div_self (mG_pos h)
  unfold spk
  rw [hg, Bool.and_eq_true, decide_eq_true_iff]
  refine ⟨⟨⟨hd1, ?_⟩, ?_, ?_, ?_⟩, rfl⟩
  · show (D3 p q r).tdiv (mH p q r) ≤ 1000000000; omega
  · show -1000000000 ≤ (mX p q r).tdiv (mH p q r) ∧ (mX p q r).tdiv (mH p q r) ≤ 1000000000; omega
  · show -1000000000 ≤ (mY p q r).tdiv (mH p q r) ∧ (mY p q r).tdiv (mH p q r) ≤ 1000000000; omega
  · show -1000000000 ≤ (mZ p q r).tdiv (mH p q r) ∧ (mZ p q r).tdiv (mH p q r) ≤ 1000000000; omega
theorem sd_eq {s : S4} (hs : Bd4 s) : ∃ v : Int, sd s (mS p q r) = sgn v ∧ mH p q r * v = D4 p q r s := by
  obtain ⟨m1, m2, m3, m4⟩ := mS_mul (p := p) (q := q) (r := r)
  have hok := mS_ok hp hq hr h
  unfold spk at hok
  rw [Bool.and_eq_true, decide_eq_true_iff] at hok
  obtain ⟨⟨w, x, y, z⟩, _⟩ := hok
  obtain ⟨⟨a1, a2, a3⟩, a4⟩ := hs
  simp only [v3] at a1 a2 a3
  have w' : -1000000000 ≤ (mS p q r).d ∧ (mS p q r).d ≤ 1000000000 := by omega
  have n1 := mul_bd a1 x; have n2 := mul_bd a2 y; have n3 := mul_bd a3 z; have n4 := mul_bd a4 w'
  refine ⟨s.a * (mS p q r).a + s.b * (mS p q r).b + s.c * (mS p q r).c + s.d * (mS p q r).d, ?_, ?_⟩
  · unfold sd
    simp only [W_add_l, W_add_r]
    rw [W_id (by omega) (by omega)]
  · rw [← cramer p q r s, ← m1, ← m2, ← m3, ← m4]; grind
end
theorem SideAt_ev {p s : S4} (hp : okp p = true) (hs : spk s = true) : Ev (fun k => impl_SideAt.f k p s) (sd p s) := by
  unfold impl_SideAt.f
  refine Ev.bind (impl_PlaneOk_ev p) ?_
  simp only [hp, Bool.not_true, Bool.false_eq_true, if_false]
  refine Ev.bind (impl_SpotOk_ev s) ?_
  simp only [hs, Bool.not_true, Bool.false_eq_true, if_false, sideAt_f, Option.bind_some]
  exact .now fun _ => rfl
theorem FnMet_pure {a : List Int} (_ : a.length ≤ 9223372036854775807 ∧ ∀ x ∈ a, 0 ≤ x ∧ x ≤ 255) : ∃ k, laws_FnMet.f k a = some true := by
  have key : Ev (fun k => laws_FnMet.f k a) true := by
    unfold laws_FnMet.f
    refine Ev.bind (a := decide ((a.length : Int) > 1048576)) (.now fun _ => rfl) ?_
    simp only [decide_eq_true_eq]
    by_cases hb : (a.length : Int) > 1048576
    · simp only [if_pos hb]; exact .now fun _ => rfl
    simp only [if_neg hb]
    obtain ⟨⟨p, q, r, s, u⟩, hd, _⟩ := DrawDet4_ex (a := a) (by omega)
    refine Ev.bind hd ?_
    by_cases hok : okp p = true ∧ okp q = true ∧ okp r = true
    rotate_left
    · obtain ⟨h1, h2⟩ := Meet3_no hok
      exact Ev.bind h1 (Ev.bind h2 (.now fun _ => rfl))
    obtain ⟨hp, hq, hr⟩ := hok
    refine Ev.bind (Meet3_ev hp hq hr) ?_
    refine Ev.bind (sMeet3_ev hp hq hr) ?_
    simp only [beq_self_eq_true, Bool.not_true, Bool.false_eq_true, if_false]
    by_cases c : D3 p q r = 0
    · simp only [if_pos c, Bool.not_false, if_true]; exact .now fun _ => rfl
    simp only [if_neg c, Bool.not_true, Bool.false_eq_true, if_false]
    have bp := okp_bd4 hp; have bq := okp_bd4 hq; have br := okp_bd4 hr
    have hS := mS_ok bp bq br c
    have hne := mH_ne c
    have zero : ∀ {s : S4}, Bd4 s → D4 p q r s = 0 → sd s (mS p q r) = 0 := fun {s} hs h0 => by
      obtain ⟨v, e1, e2⟩ := sd_eq bp bq br c hs
      rw [h0] at e2
      rcases Int.mul_eq_zero.mp e2 with h | h
      · exact absurd h hne
      · rw [e1, h]; rfl
    refine Ev.bind (impl_SpotOk_ev _) ?_
    simp only [hS, Bool.not_true, Bool.false_eq_true, if_false]
    refine Ev.bind (SideAt_ev hp hS) ?_
    rw [zero bp (D4_self1 p q r)]
    simp only [bne_self_eq_false, Bool.false_eq_true, if_false]
    refine Ev.bind (SideAt_ev hq hS) ?_
    rw [zero bq (D4_self2 p q r)]
    simp only [bne_self_eq_false, Bool.false_eq_true, if_false]
    refine Ev.bind (SideAt_ev hr hS) ?_
    rw [zero br (D4_self3 p q r)]
    simp only [bne_self_eq_false, Bool.false_eq_true, if_false]
    refine Ev.bind (spec_PlaneOk_ev s) ?_
    cases hs : okp s
    · simp only [Bool.not_false, if_true]; exact .now fun _ => rfl
    simp only [Bool.not_true, Bool.false_eq_true, if_false]
    have bs := okp_bd4 hs
    refine Ev.bind (Det4_ev p q r s) ?_
    refine Ev.bind (Det3_ev p q r) ?_
    simp only [tk_ok hp, tk_ok hq, tk_ok hr, tk_ok hs]
    have b4 := D4_bd bp bq br bs
    have wn : W (0 - D4 p q r s) = -D4 p q r s := W_neg (by omega)
    simp only [wn]
    obtain ⟨v, e1, e2⟩ := sd_eq bp bq br c bs
    have gp := mG_pos c
    have sg : ∀ v : Int, (0 < sgn v ↔ 0 < v) ∧ (sgn v < 0 ↔ v < 0) := fun v => by unfold sgn; constructor <;> (split <;> (try split) <;> omega)
    have mulpos : ∀ {g v : Int}, 0 < g → (0 < g * v ↔ 0 < v) ∧ (g * v < 0 ↔ v < 0) := fun {g v} hg => by
      rcases Int.lt_trichotomy v 0 with h | h | h
      · have := Int.mul_neg_of_pos_of_neg hg h; omega
      · subst h; simp
      · have := Int.mul_pos hg h; omega
    have hg : 0 < (mG p q r : Int) := by omega
    have := (sg v).1; have := (sg v).2; have := (mulpos (v := v) hg).1; have := (mulpos (v := v) hg).2
    by_cases n : D3 p q r < 0
    · have hH : mH p q r = -(mG p q r : Int) := if_pos n
      rw [hH, Int.neg_mul] at e2
      simp only [if_pos n]
      refine Ev.bind (SideAt_ev hs hS) ?_
      rw [e1, ← e2]
      have c1 : decide (sgn v > 0) = decide (- -((mG p q r : Int) * v) > 0) := decide_eq_decide.mpr (by omega)
      have c2 : decide (sgn v < 0) = decide (- -((mG p q r : Int) * v) < 0) := decide_eq_decide.mpr (by omega)
      rw [c1, c2]
      simp only [beq_self_eq_true, if_true]; exact .now fun _ => rfl
    · have hH : mH p q r = (mG p q r : Int) := if_neg n
      rw [hH] at e2
      simp only [if_neg n]
      refine Ev.bind (SideAt_ev hs hS) ?_
      rw [e1, ← e2]
      have c1 : decide (sgn v > 0) = decide ((mG p q r : Int) * v > 0) := decide_eq_decide.mpr (by omega)
      have c2 : decide (sgn v < 0) = decide ((mG p q r : Int) * v < 0) := decide_eq_decide.mpr (by omega)
      rw [c1, c2]
      simp only [beq_self_eq_true, if_true]; exact .now fun _ => rfl
  obtain ⟨K, h⟩ := key
  exact ⟨K, h K (Nat.le_refl _)⟩
end Go.Proofs.Ytlkcpldohlemcaa.Q
