/- Determinants, crosses, ranks of whatever planes; points where three meet. -/
import Derived.Test.YtlkcpldohlemcaaPS
import Derived.Test.YtlkcpldohlemcaaN4
namespace Go.Proofs.Ytlkcpldohlemcaa.Q
open Go Go.RowKit Go.Proofs Go.Proofs.Ytlkcpldohlemcaa.Ev Go.Proofs.Ytlkcpldohlemcaa.G
set_option linter.unusedSimpArgs false
set_option linter.unusedVariables false

def z40 : S4 := ⟨0, 0, 0, 0⟩
/-- a plane, the zero one where it is not right. -/
def tk (p : S4) : S4 := if okp p = true then p else z40
theorem tk_bd (p : S4) : Bd4 (tk p) := by
  unfold tk; split
  · exact okp_bd4 (by assumption)
  · unfold Bd4 Bd3 v3 z40; simp
theorem taken_ev (p : S4) : Ev (fun k => impl_taken.f k p) (tk p) := by
  unfold impl_taken.f tk
  refine Ev.bind (impl_PlaneOk_ev p) ?_
  cases okp p <;> exact .now fun _ => rfl
theorem l4Plane_ev (p : S4) : Ev (fun k => spec_l4Plane.f k p) (tk p) := by
  unfold spec_l4Plane.f tk
  refine Ev.bind (spec_PlaneOk_ev p) ?_
  cases okp p <;> exact .now fun _ => rfl
def D4 (p q r s : S4) : Int := -p.d * dt (v3 q) (v3 r) (v3 s) + q.d * dt (v3 p) (v3 r) (v3 s) - r.d * dt (v3 p) (v3 q) (v3 s) + s.d * dt (v3 p) (v3 q) (v3 r)
theorem D4_bd {p q r s : S4} (hp : Bd4 p) (hq : Bd4 q) (hr : Bd4 r) (hs : Bd4 s) : -1500000000000 ≤ D4 p q r s ∧ D4 p q r s ≤ 1500000000000 := by
  have m1 := mul_bd hp.2 (dt_bd hq.1 hr.1 hs.1)
  have m2 := mul_bd hq.2 (dt_bd hp.1 hr.1 hs.1)
  have m3 := mul_bd hr.2 (dt_bd hp.1 hq.1 hs.1)
  have m4 := mul_bd hs.2 (dt_bd hp.1 hq.1 hr.1)
  unfold D4
  rw [Int.neg_mul]; omega
theorem det4_f (k : Nat) {p q r s : S4} (hp : Bd4 p) (hq : Bd4 q) (hr : Bd4 r) (hs : Bd4 s) : impl_det4.f k p q r s = some (D4 p q r s) := by
  have b := D4_bd hp hq hr hs
  have hd : W (0 - p.d) = -p.d := by have := hp.2; rw [W_id (by omega) (by omega)]; omega
  simp only [impl_det4.f, det3_f k hq.1 hr.1 hs.1, det3_f k hp.1 hr.1 hs.1, det3_f k hp.1 hq.1 hs.1, det3_f k hp.1 hq.1 hr.1, Option.bind_some, hd, W_add_l, W_add_r, W_sub_l, W_sub_r]
  exact congrArg some (W_id (by unfold D4 at b; omega) (by unfold D4 at b; omega))
theorem l4Det4_f (k : Nat) {p q r s : S4} (hp : Bd4 p) (hq : Bd4 q) (hr : Bd4 r) (hs : Bd4 s) : spec_l4Det4.f k p q r s = some (D4 p q r s) := by
  have b := D4_bd hp hq hr hs
  simp only [spec_l4Det4.f, l4Det3_f k hq.1 hr.1 hs.1, l4Det3_f k hp.1 hr.1 hs.1, l4Det3_f k hp.1 hq.1 hs.1, l4Det3_f k hp.1 hq.1 hr.1, Option.bind_some, W_add_l, W_add_r, W_sub_l, W_sub_r]
  have e : s.d * dt (v3 p) (v3 q) (v3 r) - r.d * dt (v3 p) (v3 q) (v3 s) + q.d * dt (v3 p) (v3 r) (v3 s) - p.d * dt (v3 q) (v3 r) (v3 s) = D4 p q r s := by
    unfold D4; rw [Int.neg_mul]; omega
  rw [e]
  exact congrArg some (W_id (by omega) (by omega))
theorem Det4_ev (p q r s : S4) : Ev (fun k => impl_Det4.f k p q r s) (D4 (tk p) (tk q) (tk r) (tk s)) := by
  unfold impl_Det4.f
  refine Ev.bind (taken_ev p) (Ev.bind (taken_ev q) (Ev.bind (taken_ev r) (Ev.bind (taken_ev s) (.now fun k => ?_))))
  rw [det4_f k (tk_bd p) (tk_bd q) (tk_bd r) (tk_bd s)]; rfl
theorem sDet4_ev (p q r s : S4) : Ev (fun k => spec_Det4.f k p q r s) (D4 (tk p) (tk q) (tk r) (tk s)) := by
  unfold spec_Det4.f
  refine Ev.bind (l4Plane_ev p) (Ev.bind (l4Plane_ev q) (Ev.bind (l4Plane_ev r) (Ev.bind (l4Plane_ev s) (.now fun k => ?_))))
  rw [l4Det4_f k (tk_bd p) (tk_bd q) (tk_bd r) (tk_bd s)]; rfl
def D3 (p q r : S4) : Int := dt (v3 p) (v3 q) (v3 r)
theorem Det3_ev (p q r : S4) : Ev (fun k => impl_Det3.f k p q r) (D3 (tk p) (tk q) (tk r)) := by
  unfold impl_Det3.f
  refine Ev.bind (taken_ev p) (Ev.bind (taken_ev q) (Ev.bind (taken_ev r) (.now fun k => ?_)))
  rw [det3_f k (tk_bd p).1 (tk_bd q).1 (tk_bd r).1]; rfl
theorem sDet3_ev (p q r : S4) : Ev (fun k => spec_Det3.f k p q r) (D3 (tk p) (tk q) (tk r)) := by
  unfold spec_Det3.f
  refine Ev.bind (l4Plane_ev p) (Ev.bind (l4Plane_ev q) (Ev.bind (l4Plane_ev r) (.now fun k => ?_)))
  rw [l4Det3_f k (tk_bd p).1 (tk_bd q).1 (tk_bd r).1]; rfl
theorem Cross_ev (p q : S4) : Ev (fun k => impl_Cross.f k p q) (cx (v3 (tk p)) (v3 (tk q))) := by
  unfold impl_Cross.f
  simp only [normal_f]
  refine Ev.bind (taken_ev p) (Ev.bind (.now fun _ => rfl) (Ev.bind (taken_ev q) (Ev.bind (.now fun _ => rfl) (.now fun k => ?_))))
  rw [crossOf_f k (tk_bd p).1 (tk_bd q).1]; rfl
theorem dt_sw (p q r : S3) : dt q p r = -dt p q r := by simp only [dt, ip, cx]; grind
theorem dt_rot (p q r : S3) : dt q r p = dt p q r := by simp only [dt, ip, cx]; grind
theorem dt_sw2 (p q r : S3) : dt p r q = -dt p q r := by simp only [dt, ip, cx]; grind
theorem D4_sw (p q r s : S4) : D4 q p r s = -D4 p q r s := by
  unfold D4
  rw [dt_sw (v3 p) (v3 q) (v3 s), dt_sw (v3 p) (v3 q) (v3 r), Int.mul_neg, Int.mul_neg, Int.neg_mul, Int.neg_mul]; omega
theorem D4_sw3 (p q r s : S4) : D4 p q s r = -D4 p q r s := by
  unfold D4
  rw [dt_sw2 (v3 q) (v3 r) (v3 s), dt_sw2 (v3 p) (v3 r) (v3 s)]; simp only [Int.mul_neg, Int.neg_mul]; omega
theorem Parallel_ev {p q : S4} (hp : okp p = true) (hq : okp q = true) : Ev (fun k => impl_Parallel.f k p q) (par (v3 p) (v3 q)) := by
  unfold impl_Parallel.f
  refine Ev.bind (impl_PlaneOk_ev p) ?_
  simp only [hp, Bool.not_true, Bool.false_eq_true, if_false]
  refine Ev.bind (impl_PlaneOk_ev q) ?_
  simp only [hq, Bool.not_true, Bool.false_eq_true, if_false]
  refine .now fun k => ?_
  rw [parallel_f k (okp_bd4 hp).1 (okp_bd4 hq).1]; rfl
theorem lagr (p q : S3) : ip p p * ip q q = ip p q * ip p q + ip (cx p q) (cx p q) := by simp only [ip, cx]; grind
theorem ip_z3 : ip z3 z3 = 0 := by decide
theorem okp_nz {p : S4} (h : okp p = true) : ip (v3 p) (v3 p) ≠ 0 := fun e => by
  have := ip_zero e
  have h5 := (okp_iff.mp h).2.2.2.2.1
  simp only [v3] at this
  omega
theorem par_iff {p q : S4} (hp : okp p = true) (hq : okp q = true) : par (v3 p) (v3 q) ≠ 0 ↔ cx (v3 p) (v3 q) = z3 := by
  unfold par
  by_cases h : cx (v3 p) (v3 q) = z3
  · rw [if_pos h]
    refine ⟨fun _ => h, fun _ e => ?_⟩
    have e0 : ip (v3 p) (v3 q) = 0 := by
      unfold sgn at e; split at e
      · cases e
      · split at e
        · cases e
        · omega
    have l := lagr (v3 p) (v3 q)
    rw [e0, h, ip_z3] at l
    simp only [Int.mul_zero, Int.add_zero] at l
    rcases Int.mul_eq_zero.mp l with h1 | h1
    · exact okp_nz hp h1
    · exact okp_nz hq h1
  · rw [if_neg h]; simp [h]
theorem tk_ok {p : S4} (h : okp p = true) : tk p = p := if_pos h

/-! ### ranks -/
abbrev Rw := Int × Int × Int × Int × Int × Int × Unit
theorem rank_step {L : List S4} {i : Nat} {x4 : Int} {b : Rw} {v : impl_Rank.B4} (hi : i < L.length) (hl : L.length ≤ 100) (hb : Bd3 ⟨b.1, b.2.1, b.2.2.1⟩) (hb2 : Bd3 ⟨b.2.2.2.1, b.2.2.2.2.1, b.2.2.2.2.2.1⟩)
    (h0 : x4 = 0 → v3 (tk (rd L (i : Int))) ≠ z3 ∧ Lv (fun k n => impl_Rank.l4 k n 1 L (L.length : Int) ((i + 1 : Nat) : Int) ((v3 (tk (rd L (i : Int)))).x, (v3 (tk (rd L (i : Int)))).y, (v3 (tk (rd L (i : Int)))).z, b.2.2.2.1, b.2.2.2.2.1, b.2.2.2.2.2.1, ())) v)
    (h1 : x4 = 1 → (cx ⟨b.1, b.2.1, b.2.2.1⟩ (v3 (tk (rd L (i : Int)))) = z3 ∧ Lv (fun k n => impl_Rank.l4 k n 1 L (L.length : Int) ((i + 1 : Nat) : Int) b) v) ∨ (cx ⟨b.1, b.2.1, b.2.2.1⟩ (v3 (tk (rd L (i : Int)))) ≠ z3 ∧ Lv (fun k n => impl_Rank.l4 k n 2 L (L.length : Int) ((i + 1 : Nat) : Int) (b.1, b.2.1, b.2.2.1, (v3 (tk (rd L (i : Int)))).x, (v3 (tk (rd L (i : Int)))).y, (v3 (tk (rd L (i : Int)))).z, ())) v))
    (h2 : x4 = 2 → dt ⟨b.1, b.2.1, b.2.2.1⟩ ⟨b.2.2.2.1, b.2.2.2.2.1, b.2.2.2.2.2.1⟩ (v3 (tk (rd L (i : Int)))) ≠ 0 ∧ v = .inl ((3, ()), ()))
    (h3 : x4 = 0 ∨ x4 = 1 ∨ x4 = 2) : Lv (fun k n => impl_Rank.l4 k n x4 L (L.length : Int) (i : Int) b) v := by
  have f1 : (i : Int) < (L.length : Int) := by omega
  have f0 : (0 : Int) ≤ (i : Int) := by omega
  have w : W ((i : Int) + 1) = ((i + 1 : Nat) : Int) := by rw [W_id (by omega) (by omega)]; omega
  have bt := (tk_bd (rd L (i : Int))).1
  refine Lv.step (g := fun k n => impl_Rank.s4 k (impl_Rank.l4 k n) x4 L (L.length : Int) (i : Int) b) ?_ (fun _ _ => rfl)
  unfold impl_Rank.s4
  simp only [decide_eq_true_eq, if_pos f1, if_pos f0, w, normal_f, Option.bind_some, eq_iff, z3_iff]
  refine Lv.bind (taken_ev (rd L (i : Int))) ?_
  rcases h3 with rfl | rfl | rfl
  · obtain ⟨hn, hv⟩ := h0 rfl
    simp only [if_true, if_pos hn]
    exact hv
  · have e0 : ¬ ((1 : Int) = 0) := by decide
    have e2 : ¬ ((1 : Int) = 2) := by decide
    simp only [if_neg e0, if_true]
    rcases h1 rfl with ⟨hc, hv⟩ | ⟨hc, hv⟩
    · refine hv.congr fun k n => ?_
      rw [crossOf_f k hb bt, Option.bind_some, if_neg (by simpa using hc), if_neg e2]
    · refine hv.congr fun k n => ?_
      rw [crossOf_f k hb bt, Option.bind_some, if_pos hc]
  · have e0 : ¬ ((2 : Int) = 0) := by decide
    have e1 : ¬ ((2 : Int) = 1) := by decide
    simp only [if_neg e0, if_neg e1, if_true]
    obtain ⟨hd, rfl⟩ := h2 rfl
    refine .now fun k n => ?_
    rw [det_f k hb hb2 bt, Option.bind_some, if_pos (by simpa using hd)]
theorem rank_end {L : List S4} {x4 : Int} {b : Rw} : Lv (fun k n => impl_Rank.l4 k n x4 L (L.length : Int) (L.length : Int) b) (.inr ((x4, ()), ())) := by
  refine Lv.step (g := fun k n => impl_Rank.s4 k (impl_Rank.l4 k n) x4 L (L.length : Int) (L.length : Int) b) ?_ (fun _ _ => rfl)
  refine .now fun k n => ?_
  simp only [impl_Rank.s4, decide_eq_true_eq]
  rw [if_neg (by omega)]
theorem bd3_z : Bd3 z3 := by unfold Bd3 z3; simp
theorem v3_nz {p : S4} (h : okp p = true) : v3 p ≠ z3 := fun e => okp_nz h (by rw [e]; exact ip_z3)
theorem Rank2_ev {p q : S4} (hp : okp p = true) (hq : okp q = true) : Ev (fun k => impl_Rank.f k [p, q]) (if cx (v3 p) (v3 q) = z3 then 1 else 2) := by
  have b1 := (okp_bd4 hp).1
  have key : Lv (fun k n => impl_Rank.l4 k n 0 [p, q] (([p, q] : List S4).length : Int) ((0 : Nat) : Int) (0, 0, 0, 0, 0, 0, ())) (.inr ((if cx (v3 p) (v3 q) = z3 then 1 else 2, ()), ())) := by
    refine rank_step (i := 0) (by simp) (by simp) bd3_z bd3_z (fun _ => ⟨by show v3 (tk p) ≠ z3; rw [tk_ok hp]; exact v3_nz hp, ?_⟩) (fun h => by cases h) (fun h => by cases h) (.inl rfl)
    refine rank_step (i := 1) (by simp) (by simp) (by show Bd3 (v3 (tk p)); rw [tk_ok hp]; exact b1) bd3_z (fun h => by cases h) (fun _ => ?_) (fun h => by cases h) (.inr (.inl rfl))
    by_cases c : cx (v3 p) (v3 q) = z3
    · rw [if_pos c]
      refine .inl ⟨?_, rank_end⟩
      show cx (v3 (tk p)) (v3 (tk q)) = z3
      rw [tk_ok hp, tk_ok hq]; exact c
    · rw [if_neg c]
      refine .inr ⟨?_, rank_end⟩
      show cx (v3 (tk p)) (v3 (tk q)) ≠ z3
      rw [tk_ok hp, tk_ok hq]; exact c
  unfold impl_Rank.f
  exact Ev.bind key.ev (.now fun _ => rfl)
theorem Rank3_ev {p q r : S4} (hp : okp p = true) (hq : okp q = true) (h : D3 (tk p) (tk q) (tk r) ≠ 0) : Ev (fun k => impl_Rank.f k [p, q, r]) 3 := by
  have b1 := (okp_bd4 hp).1
  have b2 := (okp_bd4 hq).1
  have hc : cx (v3 p) (v3 q) ≠ z3 := fun e => h (by
    rw [tk_ok hp, tk_ok hq]
    show dt (v3 p) (v3 q) (v3 (tk r)) = 0
    rw [← dt_rot, ← dt_rot]; unfold dt; rw [e]; simp [ip, z3])
  have key : Lv (fun k n => impl_Rank.l4 k n 0 [p, q, r] (([p, q, r] : List S4).length : Int) ((0 : Nat) : Int) (0, 0, 0, 0, 0, 0, ())) (.inl ((3, ()), ())) := by
    refine rank_step (i := 0) (by simp) (by simp) bd3_z bd3_z (fun _ => ⟨by show v3 (tk p) ≠ z3; rw [tk_ok hp]; exact v3_nz hp, ?_⟩) (fun h => by cases h) (fun h => by cases h) (.inl rfl)
    refine rank_step (i := 1) (by simp) (by simp) (by show Bd3 (v3 (tk p)); rw [tk_ok hp]; exact b1) bd3_z (fun h => by cases h) (fun _ => .inr ⟨?_, ?_⟩) (fun h => by cases h) (.inr (.inl rfl))
    · show cx (v3 (tk p)) (v3 (tk q)) ≠ z3
      rw [tk_ok hp, tk_ok hq]; exact hc
    · refine rank_step (i := 2) (by simp) (by simp) (by show Bd3 (v3 (tk p)); rw [tk_ok hp]; exact b1) (by show Bd3 (v3 (tk q)); rw [tk_ok hq]; exact b2) (fun h => by cases h) (fun h => by cases h) (fun _ => ⟨?_, rfl⟩) (.inr (.inr rfl))
      exact h
  unfold impl_Rank.f
  exact Ev.bind key.ev (.now fun _ => rfl)
end Go.Proofs.Ytlkcpldohlemcaa.Q
