/- FnExactCorners. -/
import Derived.Test.YtlkcpldohlemcaaC4
namespace Go.Proofs.Ytlkcpldohlemcaa.Q
open Go Go.RowKit Go.Proofs Go.Proofs.Ytlkcpldohlemcaa.Ev Go.Proofs.Ytlkcpldohlemcaa.G
set_option linter.unusedSimpArgs false
set_option linter.unusedVariables false

theorem Corners_same {L : List S4} (hl : L.length ≤ 2097152) : ∃ V : List S4, V.length ≤ 13824 ∧ Ev (fun k => impl_Corners.f k L) V ∧ Ev (fun k => spec_Corners.f k L) V := by
  unfold impl_Corners.f spec_Corners.f
  cases ho : opV L with
  | false =>
    refine ⟨[], by simp, (iOpen_ev hl).bind ?_, (sOpen_ev hl).bind ?_⟩
    · rw [ho]; exact .now fun _ => rfl
    · rw [ho]; exact .now fun _ => rfl
  | true =>
    have h := ho
    unfold opV at h
    rw [Bool.and_eq_true, Bool.and_eq_true, decide_eq_true_eq] at h
    obtain ⟨⟨ha, h24⟩, _⟩ := h
    obtain ⟨V, _, hV, _, e1, e2⟩ := corners_same (fun p hp => List.all_eq_true.1 ha p hp) h24
    refine ⟨V, hV, (iOpen_ev hl).bind ?_, (sOpen_ev hl).bind ?_⟩
    · rw [ho]; simp only [Bool.not_true, Bool.false_eq_true, if_false]; exact e1.bind (.now fun _ => rfl)
    · rw [ho]; simp only [Bool.not_true, Bool.false_eq_true, if_false]; exact e2.bind (.now fun _ => rfl)
theorem eqSpot_self' (k : Nat) (p : S4) : laws_eqSpot.f k p p = some true := by simp [laws_eqSpot.f]
theorem eqSpotS_l4 {l : List S4} (hl : l.length ≤ 2097152) : ∀ (d i : Nat), l.length - i = d → i ≤ l.length → Lv (fun k m => laws_eqSpotS.l4 k m l l (i : Int)) (.inr ((), ())) := by
  intro d
  induction d with
  | zero =>
    intro i hd hi
    refine Lv.step (g := fun k m => laws_eqSpotS.s4 k (laws_eqSpotS.l4 k m) l l (i : Int)) ?_ (fun _ _ => rfl)
    simp only [laws_eqSpotS.s4, decide_eq_true_eq, if_neg (show ¬ (i : Int) < (l.length : Int) by omega)]
    exact .now fun _ _ => rfl
  | succ d ih =>
    intro i hd hi
    have hi' : i < l.length := by omega
    refine Lv.step (g := fun k m => laws_eqSpotS.s4 k (laws_eqSpotS.l4 k m) l l (i : Int)) ?_ (fun _ _ => rfl)
    simp only [laws_eqSpotS.s4, eqSpot_self', Option.bind_some, decide_eq_true_eq, if_pos (show (i : Int) < (l.length : Int) by omega), if_pos (Int.natCast_nonneg _), wrn hi' hl, Bool.not_true, Bool.false_eq_true, if_false]
    exact ih (i + 1) (by omega) (by omega)
theorem eqSpotS_ev {l : List S4} (hl : l.length ≤ 2097152) : Ev (fun k => laws_eqSpotS.f k l l) true := by
  simp only [laws_eqSpotS.f, ne_iff, ne_eq, not_true_eq_false, if_false]
  exact (eqSpotS_l4 hl l.length 0 (by omega) (by omega)).ev.bind (.now fun _ => rfl)
def mk4 (j : Nat) : S4 := ⟨1 + 4 * (j : Int), 1 + 4 * (j : Int) + 1, 1 + 4 * (j : Int) + 2, 1 + 4 * (j : Int) + 3⟩
theorem markSpotS_l2 {n : Nat} (hl : n ≤ 2097152) : ∀ (d i : Nat), n - i = d → i ≤ n → ∀ o : List S4, o.length = n → (∀ j : Nat, j < i → o[j]? = some (mk4 j)) →
    ∃ r : List S4, r.length = n ∧ (∀ j : Nat, j < n → r[j]? = some (mk4 j)) ∧ Lv (fun k m => laws_markSpotS.l2 k m (1 + 4 * (i : Int)) (i : Int) o) (((), 1 + 4 * (n : Int), ()), (r, ())) := by
  intro d
  induction d with
  | zero =>
    intro i hd hi o ho hj
    obtain rfl : i = n := by omega
    refine ⟨o, ho, hj, ?_⟩
    refine Lv.step (g := fun k m => laws_markSpotS.s2 k (laws_markSpotS.l2 k m) (1 + 4 * (i : Int)) (i : Int) o) ?_ (fun _ _ => rfl)
    simp only [laws_markSpotS.s2, decide_eq_true_eq, if_neg (show ¬ (i : Int) < (o.length : Int) by omega)]
    exact .now fun _ _ => rfl
  | succ d ih =>
    intro i hd hi o ho hj
    have hi' : i < o.length := by omega
    have w0 : W ((i : Int) + 1) = ((i + 1 : Nat) : Int) := by rw [W_id (by omega) (by omega)]; omega
    have w1 : W (1 + 4 * (i : Int) + 1) = 1 + 4 * (i : Int) + 1 := W_id (by omega) (by omega)
    have w2 : W (1 + 4 * (i : Int) + 1 + 1) = 1 + 4 * (i : Int) + 2 := by rw [W_id (by omega) (by omega)]; omega
    have w3 : W (1 + 4 * (i : Int) + 2 + 1) = 1 + 4 * (i : Int) + 3 := by rw [W_id (by omega) (by omega)]; omega
    have w4 : W (1 + 4 * (i : Int) + 3 + 1) = 1 + 4 * ((i + 1 : Nat) : Int) := by rw [W_id (by omega) (by omega)]; omega
    obtain ⟨r, h1, h2, h3⟩ := ih (i + 1) (by omega) (by omega) (o.set i (mk4 i)) (by simp [ho]) (fun j hj' => by
      rw [List.getElem?_set]
      by_cases c : i = j
      · subst c; rw [if_pos rfl, if_pos hi']
      · rw [if_neg c]; exact hj j (by omega))
    refine ⟨r, h1, h2, Lv.step (g := fun k m => laws_markSpotS.s2 k (laws_markSpotS.l2 k m) (1 + 4 * (i : Int)) (i : Int) o) ?_ (fun _ _ => rfl)⟩
    have gs : ∀ (l : List S4) (x : S4), i < l.length → (l.set i x).getD i default = x := fun l x h => by simp [List.getD_eq_getElem?_getD, h]
    have hs : ∀ (l : List S4) (x y : S4), (l.set i x).set i y = l.set i y := fun l x y => List.set_set ..
    simp only [laws_markSpotS.s2, decide_eq_true_eq, List.length_set, Int.toNat_natCast, if_pos (show (i : Int) < (o.length : Int) by omega), if_pos (Int.natCast_nonneg _), if_pos hi', w0, w1, w2, w3, w4, gs _ _ hi', hs]
    exact h3
theorem markSpotS_ev {l : List S4} (hl : l.length ≤ 2097152) : ∃ r : List S4, r.length = l.length ∧ (∀ j : Nat, j < l.length → r[j]? = some (mk4 j)) ∧ Ev (fun k => laws_markSpotS.f k l 1) (1 + 4 * (l.length : Int), r) := by
  obtain ⟨r, h1, h2, h3⟩ := markSpotS_l2 hl l.length 0 (by omega) (by omega) l rfl (fun j hj => absurd hj (Nat.not_lt_zero j))
  refine ⟨r, h1, h2, ?_⟩
  simp only [laws_markSpotS.f]
  exact h3.ev.one (g := fun x1 => (x1.1.2.1, x1.2.1))
theorem heldSpotS_l2 {r : List S4} {n : Nat} (hn : r.length = n) (hl : n ≤ 2097152) (h : ∀ j : Nat, j < n → r[j]? = some (mk4 j)) : ∀ (d i : Nat), n - i = d → i ≤ n → Lv (fun k m => laws_heldSpotS.l2 k m r (1 + 4 * (i : Int)) (i : Int)) (.inr ((1 + 4 * (n : Int), ()), ())) := by
  intro d
  induction d with
  | zero =>
    intro i hd hi
    obtain rfl : i = n := by omega
    refine Lv.step (g := fun k m => laws_heldSpotS.s2 k (laws_heldSpotS.l2 k m) r (1 + 4 * (i : Int)) (i : Int)) ?_ (fun _ _ => rfl)
    simp only [laws_heldSpotS.s2, decide_eq_true_eq, if_neg (show ¬ (i : Int) < (r.length : Int) by omega)]
    exact .now fun _ _ => rfl
  | succ d ih =>
    intro i hd hi
    have hi' : i < n := by omega
    have e : rd r (i : Int) = mk4 i := by simp [rd, List.getD_eq_getElem?_getD, h i hi']
    have w0 : W ((i : Int) + 1) = ((i + 1 : Nat) : Int) := by rw [W_id (by omega) (by omega)]; omega
    have w1 : W (1 + 4 * (i : Int) + 1) = 1 + 4 * (i : Int) + 1 := W_id (by omega) (by omega)
    have w2 : W (1 + 4 * (i : Int) + 1 + 1) = 1 + 4 * (i : Int) + 2 := by rw [W_id (by omega) (by omega)]; omega
    have w3 : W (1 + 4 * (i : Int) + 2 + 1) = 1 + 4 * (i : Int) + 3 := by rw [W_id (by omega) (by omega)]; omega
    have w4 : W (1 + 4 * (i : Int) + 3 + 1) = 1 + 4 * ((i + 1 : Nat) : Int) := by rw [W_id (by omega) (by omega)]; omega
    refine Lv.step (g := fun k m => laws_heldSpotS.s2 k (laws_heldSpotS.l2 k m) r (1 + 4 * (i : Int)) (i : Int)) ?_ (fun _ _ => rfl)
    simp only [laws_heldSpotS.s2, decide_eq_true_eq, if_pos (show (i : Int) < (r.length : Int) by omega), if_pos (Int.natCast_nonneg _), e, mk4, w0, w1, w2, w3, w4, bne_self_eq_false, Bool.false_eq_true, if_false]
    exact ih (i + 1) (by omega) (by omega)
theorem heldSpotS_ev {r : List S4} {n : Nat} (hn : r.length = n) (hl : n ≤ 2097152) (h : ∀ j : Nat, j < n → r[j]? = some (mk4 j)) : Ev (fun k => laws_heldSpotS.f k r 1) (1 + 4 * (n : Int)) := by
  simp only [laws_heldSpotS.f]
  exact (heldSpotS_l2 hn hl h n 0 (by omega) (by omega)).ev.bind (.now fun _ => rfl)
theorem FnExactCorners_pure {L : List S4} (hM : L.length ≤ 9223372036854775807) : ∃ k, laws_FnExactCorners.f k L = some true := by
  have key : Ev (fun k => laws_FnExactCorners.f k L) true := by
    have e : W (1048576 - (L.length : Int)) = 1048576 - L.length := W_id (by omega) (by omega)
    simp only [laws_FnExactCorners.f, laws_szPlaneS.f, decide_eq_true_eq, e]
    by_cases c : 1048576 - (L.length : Int) < 0
    · simp only [if_pos c, Option.bind_some, show (-1 : Int) < 0 by omega, if_true]; exact .now fun _ => rfl
    · simp only [if_neg c, Option.bind_some]
      have hl : L.length ≤ 2097152 := by omega
      obtain ⟨v, hv, s2, s1⟩ := Corners_same hl
      obtain ⟨r, m1⟩ := markPlaneS_ev hl
      obtain ⟨u, u1, u2, m2⟩ := markSpotS_ev (l := v) (by omega)
      have hd := heldSpotS_ev u1 (by omega) u2
      have ei := eqSpotS_ev (l := v) (by omega)
      refine (toPlaneS_ev hl).bind (s1.bind ((toPlaneS_ev hl).bind (s2.bind (ei.bind ?_))))
      simp only [Bool.not_true, Bool.false_eq_true, if_false]
      refine (toPlaneS_ev hl).bind ((eqPlaneS_ev hl).bind ?_)
      simp only [Bool.not_true, Bool.false_eq_true, if_false]
      refine m1.bind ?_
      simp only [if_neg (show ¬ 1 + 4 * (L.length : Int) < 0 by omega)]
      refine ei.bind ?_
      simp only [Bool.not_true, Bool.false_eq_true, if_false]
      refine m2.bind (hd.bind ?_)
      simp only [if_neg (show ¬ 1 + 4 * (v.length : Int) < 0 by omega), bne_self_eq_false, Bool.false_eq_true, if_false]
      refine (toPlaneS_ev hl).bind (s2.bind (ei.bind ?_))
      simp only [Bool.not_true, Bool.false_eq_true, if_false]
      refine hd.bind (.now fun _ => ?_)
      simp only [if_neg (show ¬ 1 + 4 * (v.length : Int) < 0 by omega), bne_self_eq_false, Bool.false_eq_true, if_false]
  obtain ⟨K, h⟩ := key
  exact ⟨K, h K (Nat.le_refl _)⟩
end Go.Proofs.Ytlkcpldohlemcaa.Q
