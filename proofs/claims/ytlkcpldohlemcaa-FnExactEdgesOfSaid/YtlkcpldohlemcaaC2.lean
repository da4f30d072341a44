/- The corners of a cell, by both programs. -/
import Derived.Test.YtlkcpldohlemcaaC1
namespace Go.Proofs.Ytlkcpldohlemcaa.Q
open Go Go.RowKit Go.Proofs Go.Proofs.Ytlkcpldohlemcaa.Ev Go.Proofs.Ytlkcpldohlemcaa.G
set_option linter.unusedSimpArgs false
set_option linter.unusedVariables false

theorem spk_ok (s : S4) : spk s = okSpot s := by
  unfold spk okSpot
  congr 1
  rw [Bool.eq_iff_iff, beq_iff_eq, beq_iff_eq]
  omega
/-- the least of what the planes from a place on say of a spot, and of a number -/
theorem rd_okL {L : List S4} (hL : ∀ p ∈ L, okp p = true) {i : Nat} (h : i < L.length) : okp (rd L i) = true := by
  rw [rd_in h]; exact hL _ (List.getElem_mem _)
def mn (s : S4) : Int → List S4 → Int
  | x, [] => x
  | x, p :: l => mn s (if sd p s < x then sd p s else x) l
theorem inCell_l3 {L : List S4} {s : S4} (hl : L.length ≤ 100) : ∀ (d i : Nat) (x : Int), L.length - i = d → i ≤ L.length → Lv (fun k m => impl_inCell.l3 k m x L (L.length : Int) (i : Int) s) ((mn s x (L.drop i), ()), ()) := by
  intro d
  induction d with
  | zero =>
    intro i x hd hi
    refine Lv.step (g := fun k m => impl_inCell.s3 k (impl_inCell.l3 k m) x L (L.length : Int) (i : Int) s) ?_ (fun _ _ => rfl)
    simp only [impl_inCell.s3, decide_eq_true_eq, if_neg (show ¬ (i : Int) < (L.length : Int) by omega)]
    rw [List.drop_eq_nil_of_le (by omega)]
    exact .now fun _ _ => rfl
  | succ d ih =>
    intro i x hd hi
    have hi' : i < L.length := by omega
    refine Lv.step (g := fun k m => impl_inCell.s3 k (impl_inCell.l3 k m) x L (L.length : Int) (i : Int) s) ?_ (fun _ _ => rfl)
    simp only [impl_inCell.s3, decide_eq_true_eq, if_pos (show (i : Int) < (L.length : Int) by omega), if_pos (Int.natCast_nonneg _), wrn hi' (show L.length ≤ 2097152 by omega), sideAt_f, Option.bind_some]
    rw [← List.getElem_cons_drop hi', mn, rd_in hi']
    exact ih (i + 1) _ (by omega) (by omega)
theorem inCell_ev {L : List S4} (s : S4) (hl : L.length ≤ 100) : Ev (fun k => impl_inCell.f k L s) (mn s 1 L) := by
  simp only [impl_inCell.f]
  have := inCell_l3 (s := s) hl L.length 0 1 (by omega) (by omega)
  rw [List.drop_zero] at this
  exact this.ev.bind (.now fun _ => rfl)
theorem l7In_l3 {L : List S4} {s : S4} (hl : L.length ≤ 100) : ∀ (d i : Nat) (x : Int), L.length - i = d → i ≤ L.length → Lv (fun k m => spec_l7In.l3 k m L x (i : Int) s) ((mn s x (L.drop i), ()), ()) := by
  intro d
  induction d with
  | zero =>
    intro i x hd hi
    refine Lv.step (g := fun k m => spec_l7In.s3 k (spec_l7In.l3 k m) L x (i : Int) s) ?_ (fun _ _ => rfl)
    simp only [spec_l7In.s3, decide_eq_true_eq, if_neg (show ¬ (i : Int) < (L.length : Int) by omega)]
    rw [List.drop_eq_nil_of_le (by omega)]
    exact .now fun _ _ => rfl
  | succ d ih =>
    intro i x hd hi
    have hi' : i < L.length := by omega
    refine Lv.step (g := fun k m => spec_l7In.s3 k (spec_l7In.l3 k m) L x (i : Int) s) ?_ (fun _ _ => rfl)
    simp only [spec_l7In.s3, decide_eq_true_eq, if_pos (show (i : Int) < (L.length : Int) by omega), if_pos (Int.natCast_nonneg _), wrn hi' (show L.length ≤ 2097152 by omega), l5Side_f, Option.bind_some]
    rw [← List.getElem_cons_drop hi', mn, rd_in hi']
    by_cases c : sd L[i] s < x
    · simp only [if_pos c]; exact ih (i + 1) _ (by omega) (by omega)
    · simp only [if_neg c]; exact ih (i + 1) _ (by omega) (by omega)
theorem l7In_ev {L : List S4} (s : S4) (hl : L.length ≤ 100) : Ev (fun k => spec_l7In.f k L s) (mn s 1 L) := by
  simp only [spec_l7In.f]
  have := l7In_l3 (s := s) hl L.length 0 1 (by omega) (by omega)
  rw [List.drop_zero] at this
  exact this.ev.bind (.now fun _ => rfl)
/-- the point that three planes have together, where it is one of the cell's. -/
def pt3 (L : List S4) (p q r : S4) : Option S4 := if D3 p q r = 0 then none else if mn (mS p q r) 1 L ≥ 0 then some (mS p q r) else none
theorem pt3_ok {L : List S4} {p q r s : S4} (hp : okp p = true) (hq : okp q = true) (hr : okp r = true) (h : pt3 L p q r = some s) : okSpot s = true := by
  unfold pt3 at h
  split at h
  · cases h
  · rename_i c
    split at h
    · cases h; rw [← spk_ok]; exact mS_ok (okp_bd4 hp) (okp_bd4 hq) (okp_bd4 hr) c
    · cases h
theorem mS_rev {p q r : S4} (h : D3 p q r ≠ 0) : mS r q p = mS p q r ∧ D3 r q p ≠ 0 := by
  have ex : mX r q p = -mX p q r := by simp only [mX, dt, ip, cx]; grind
  have ey : mY r q p = -mY p q r := by simp only [mY, dt, ip, cx]; grind
  have ez : mZ r q p = -mZ p q r := by simp only [mZ, dt, ip, cx]; grind
  have ed : D3 r q p = -D3 p q r := by simp only [D3, dt, ip, cx]; grind
  have eg : mG r q p = mG p q r := by unfold mG; rw [ex, ey, ez, ed]; simp only [Int.natAbs_neg]
  have eh : mH r q p = -mH p q r := by unfold mH; rw [eg, ed]; split <;> split <;> omega
  refine ⟨?_, by omega⟩
  unfold mS
  rw [ex, ey, ez, ed, eh]
  simp only [Int.neg_tdiv, Int.tdiv_neg, Int.neg_neg]
theorem pt3_rev (L : List S4) (p q r : S4) : pt3 L r q p = pt3 L p q r := by
  unfold pt3
  by_cases c : D3 p q r = 0
  · have : D3 r q p = 0 := Decidable.byContradiction fun h => (mS_rev h).2 c
    rw [if_pos c, if_pos this]
  · obtain ⟨e, h⟩ := mS_rev c
    rw [if_neg c, if_neg h, e]
/-- comparing, by the reference -/
theorem cmpS_l6 {x0 x1 x2 y0 y1 y2 : Int} : Lv (fun k n => spec_CmpSpot.l6 k n 0 [x0, x1, x2] [y0, y1, y2]) (if x0 ≠ y0 then .inl ((cI x0 y0, ()), ()) else if x1 ≠ y1 then .inl ((cI x1 y1, ()), ()) else if x2 ≠ y2 then .inl ((cI x2 y2, ()), ()) else .inr ((), ())) := by
  have cf : ∀ (k : Nat) (x y : Int), spec_l3CmpInt.f k x y = some (cI x y) := fun k x y => by
    unfold spec_l3CmpInt.f cI
    simp only [decide_eq_true_eq]
    split
    · rfl
    · split <;> rfl
  have w0 : W (0 + 1) = 1 := W_id (by omega) (by omega)
  have w1 : W (1 + 1) = 2 := W_id (by omega) (by omega)
  have w2 : W (2 + 1) = 3 := W_id (by omega) (by omega)
  refine Lv.step (g := fun k n => spec_CmpSpot.s6 k (spec_CmpSpot.l6 k n) 0 [x0, x1, x2] [y0, y1, y2]) ?_ (fun _ _ => rfl)
  by_cases c0 : x0 = y0
  · subst c0
    simp only [spec_CmpSpot.s6, cf, w0, ne_eq, not_true_eq_false, if_false]
    simp only [show decide ((0 : Int) < 3) = true by decide, if_true, show (0 : Int) ≤ 0 from Int.le_refl _, List.length_cons, List.length_nil]
    simp
    refine Lv.step (g := fun k n => spec_CmpSpot.s6 k (spec_CmpSpot.l6 k n) 1 [x0, x1, x2] [x0, y1, y2]) ?_ (fun _ _ => rfl)
    by_cases c1 : x1 = y1
    · subst c1
      simp [spec_CmpSpot.s6, cf, w1]
      refine Lv.step (g := fun k n => spec_CmpSpot.s6 k (spec_CmpSpot.l6 k n) 2 [x0, x1, x2] [x0, x1, y2]) ?_ (fun _ _ => rfl)
      by_cases c2 : x2 = y2
      · subst c2
        simp [spec_CmpSpot.s6, cf, w2]
        refine Lv.step (g := fun k n => spec_CmpSpot.s6 k (spec_CmpSpot.l6 k n) 3 [x0, x1, x2] [x0, x1, x2]) ?_ (fun _ _ => rfl)
        simp [spec_CmpSpot.s6]
        exact .now fun _ _ => rfl
      · simp [spec_CmpSpot.s6, cf, c2]
        exact .now fun _ _ => rfl
    · simp [spec_CmpSpot.s6, cf, c1]
      exact .now fun _ _ => rfl
  · simp [spec_CmpSpot.s6, cf, c0]
    exact .now fun _ _ => rfl
theorem sCmpSpot_ev {s t : S4} (hs : okSpot s = true) (ht : okSpot t = true) : Ev (fun k => spec_CmpSpot.f k s t) (cfSpot s t) := by
  have right : ∀ {s : S4}, okSpot s = true → Ev (fun k => spec_l5Right.f k s) s := fun {s} h => by
    unfold spec_l5Right.f
    refine (spec_SpotOk_ev s).bind ?_
    rw [spk_ok, h]; exact .now fun _ => rfl
  unfold spec_CmpSpot.f
  refine (right hs).bind ((right ht).bind (cmpS_l6.ev.bind ?_))
  have e : cfSpot s t = cor [cI (W (s.a * t.d)) (W (t.a * s.d)), cI (W (s.b * t.d)) (W (t.b * s.d)), cI (W (s.c * t.d)) (W (t.c * s.d))] := rfl
  rw [e]
  generalize W (s.a * t.d) = x0; generalize W (t.a * s.d) = y0; generalize W (s.b * t.d) = x1; generalize W (t.b * s.d) = y1; generalize W (s.c * t.d) = x2; generalize W (t.c * s.d) = y2
  have n : ∀ x y : Int, (cI x y ≠ 0) = (x ≠ y) := fun x y => propext (not_congr cI_0)
  simp only [cor, n]
  by_cases c0 : x0 ≠ y0
  · simp only [if_pos c0]; exact .now fun _ => rfl
  · simp only [if_neg c0]
    by_cases c1 : x1 ≠ y1
    · simp only [if_pos c1]; exact .now fun _ => rfl
    · simp only [if_neg c1]
      by_cases c2 : x2 ≠ y2
      · simp only [if_pos c2]; exact .now fun _ => rfl
      · simp only [if_neg c2]; exact .now fun _ => rfl
abbrev OrdS (l : List S4) : Prop := Ord Try.prog 182 okSpot cfSpot l
end Go.Proofs.Ytlkcpldohlemcaa.Q
