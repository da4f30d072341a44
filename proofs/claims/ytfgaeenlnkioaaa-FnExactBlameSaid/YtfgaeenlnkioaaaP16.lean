/- What the laws do to lists: copied, compared, marked; the law Blame. -/
import Derived.Test.YtfgaeenlnkioaaaP15
namespace Go.Proofs.Ytfgaeenlnkioaaa.Q
open Go Go.RowKit Go.Proofs Go.Proofs.Ytfgaeenlnkioaaa.Ev Go.Proofs.Ytfgaeenlnkioaaa.G
set_option linter.unusedSimpArgs false
set_option linter.unusedVariables false

theorem toPlaneS_l3 {l : List S4} (hl : l.length ≤ 2097152) : ∀ (d i : Nat), l.length - i = d → i ≤ l.length → ∀ o : List S4, o.length = l.length → (∀ j : Nat, j < i → o[j]? = l[j]?) → Lv (fun k m => laws_toPlaneS.l3 k m l (i : Int) o) (((), ()), (l, ())) := by
  intro d
  induction d with
  | zero =>
    intro i hd hi o ho hj
    have e : o = l := List.ext_getElem? fun j => by
      by_cases c : j < i
      · exact hj j c
      · rw [List.getElem?_eq_none (by omega), List.getElem?_eq_none (by omega)]
    subst e
    refine Lv.step (g := fun k m => laws_toPlaneS.s3 k (laws_toPlaneS.l3 k m) o (i : Int) o) ?_ (fun _ _ => rfl)
    simp only [laws_toPlaneS.s3, decide_eq_true_eq, if_neg (show ¬ (i : Int) < (o.length : Int) by omega)]
    exact .now fun _ _ => rfl
  | succ d ih =>
    intro i hd hi o ho hj
    have hi' : i < l.length := by omega
    refine Lv.step (g := fun k m => laws_toPlaneS.s3 k (laws_toPlaneS.l3 k m) l (i : Int) o) ?_ (fun _ _ => rfl)
    simp only [laws_toPlaneS.s3, laws_toPlane.f, Option.bind_some, decide_eq_true_eq, if_pos (show (i : Int) < (l.length : Int) by omega), if_pos (show (i : Int) < (o.length : Int) by omega), if_pos (Int.natCast_nonneg _), Int.toNat_natCast, if_pos (show i < o.length by omega), wrn hi' hl]
    refine ih (i + 1) (by omega) (by omega) _ (by simp [ho]) fun j hj' => ?_
    rw [List.getElem?_set]
    by_cases c : i = j
    · subst c; rw [if_pos rfl, if_pos (by omega), rd_in hi', List.getElem?_eq_getElem hi']
    · rw [if_neg c]; exact hj j (by omega)
theorem toPlaneS_ev {l : List S4} (hl : l.length ≤ 2097152) : Ev (fun k => laws_toPlaneS.f k l) l := by
  simp only [laws_toPlaneS.f, if_pos (Int.natCast_nonneg _), Int.toNat_natCast, if_pos (lt47_ok (show l.length < 2199023255552 by omega))]
  exact (toPlaneS_l3 hl l.length 0 (by omega) (by omega) _ (by simp) (fun j hj => absurd hj (Nat.not_lt_zero j))).ev.one
theorem eqPlane_self' (k : Nat) (p : S4) : laws_eqPlane.f k p p = some true := by simp [laws_eqPlane.f]
theorem eqPlaneS_l4 {l : List S4} (hl : l.length ≤ 2097152) : ∀ (d i : Nat), l.length - i = d → i ≤ l.length → Lv (fun k m => laws_eqPlaneS.l4 k m l l (i : Int)) (.inr ((), ())) := by
  intro d
  induction d with
  | zero =>
    intro i hd hi
    refine Lv.step (g := fun k m => laws_eqPlaneS.s4 k (laws_eqPlaneS.l4 k m) l l (i : Int)) ?_ (fun _ _ => rfl)
    simp only [laws_eqPlaneS.s4, decide_eq_true_eq, if_neg (show ¬ (i : Int) < (l.length : Int) by omega)]
    exact .now fun _ _ => rfl
  | succ d ih =>
    intro i hd hi
    have hi' : i < l.length := by omega
    refine Lv.step (g := fun k m => laws_eqPlaneS.s4 k (laws_eqPlaneS.l4 k m) l l (i : Int)) ?_ (fun _ _ => rfl)
    simp only [laws_eqPlaneS.s4, eqPlane_self', Option.bind_some, decide_eq_true_eq, if_pos (show (i : Int) < (l.length : Int) by omega), if_pos (Int.natCast_nonneg _), wrn hi' hl, Bool.not_true, Bool.false_eq_true, if_false]
    exact ih (i + 1) (by omega) (by omega)
theorem eqPlaneS_ev {l : List S4} (hl : l.length ≤ 2097152) : Ev (fun k => laws_eqPlaneS.f k l l) true := by
  simp only [laws_eqPlaneS.f, ne_iff, ne_eq, not_true_eq_false, if_false]
  exact (eqPlaneS_l4 hl l.length 0 (by omega) (by omega)).ev.bind (.now fun _ => rfl)
theorem eqIntS_l4 {l : List Int} (hl : l.length ≤ 2097152) : ∀ (d i : Nat), l.length - i = d → i ≤ l.length → Lv (fun k m => laws_eqIntS.l4 k m l l (i : Int)) (.inr ((), ())) := by
  intro d
  induction d with
  | zero =>
    intro i hd hi
    refine Lv.step (g := fun k m => laws_eqIntS.s4 k (laws_eqIntS.l4 k m) l l (i : Int)) ?_ (fun _ _ => rfl)
    simp only [laws_eqIntS.s4, decide_eq_true_eq, if_neg (show ¬ (i : Int) < (l.length : Int) by omega)]
    exact .now fun _ _ => rfl
  | succ d ih =>
    intro i hd hi
    have hi' : i < l.length := by omega
    refine Lv.step (g := fun k m => laws_eqIntS.s4 k (laws_eqIntS.l4 k m) l l (i : Int)) ?_ (fun _ _ => rfl)
    simp only [laws_eqIntS.s4, decide_eq_true_eq, if_pos (show (i : Int) < (l.length : Int) by omega), if_pos (Int.natCast_nonneg _), wrn hi' hl, bne_self_eq_false, Bool.false_eq_true, if_false]
    exact ih (i + 1) (by omega) (by omega)
theorem eqIntS_ev {l : List Int} (hl : l.length ≤ 2097152) : Ev (fun k => laws_eqIntS.f k l l) true := by
  simp only [laws_eqIntS.f, ne_iff, ne_eq, not_true_eq_false, if_false]
  exact (eqIntS_l4 hl l.length 0 (by omega) (by omega)).ev.bind (.now fun _ => rfl)
theorem markIntS_l2 {n : Nat} (hl : n ≤ 2097152) : ∀ (d i : Nat), n - i = d → i ≤ n → ∀ o : List Int, o.length = n → (∀ j : Nat, j < i → o[j]? = some (1 + (j : Int))) →
    ∃ r : List Int, r.length = n ∧ (∀ j : Nat, j < n → r[j]? = some (1 + (j : Int))) ∧ Lv (fun k m => laws_markIntS.l2 k m (1 + (i : Int)) (i : Int) o) (((), 1 + (n : Int), ()), (r, ())) := by
  intro d
  induction d with
  | zero =>
    intro i hd hi o ho hj
    obtain rfl : i = n := by omega
    refine ⟨o, ho, hj, ?_⟩
    refine Lv.step (g := fun k m => laws_markIntS.s2 k (laws_markIntS.l2 k m) (1 + (i : Int)) (i : Int) o) ?_ (fun _ _ => rfl)
    simp only [laws_markIntS.s2, decide_eq_true_eq, if_neg (show ¬ (i : Int) < (o.length : Int) by omega)]
    exact .now fun _ _ => rfl
  | succ d ih =>
    intro i hd hi o ho hj
    have hi' : i < o.length := by omega
    obtain ⟨r, h1, h2, h3⟩ := ih (i + 1) (by omega) (by omega) (o.set i (1 + (i : Int))) (by simp [ho]) (fun j hj' => by
      rw [List.getElem?_set]
      by_cases c : i = j
      · subst c; rw [if_pos rfl, if_pos hi']
      · rw [if_neg c]; exact hj j (by omega))
    refine ⟨r, h1, h2, ?_⟩
    have w1 : W ((i : Int) + 1) = ((i + 1 : Nat) : Int) := by rw [W_id (by omega) (by omega)]; omega
    have w2 : W (1 + (i : Int) + 1) = 1 + ((i + 1 : Nat) : Int) := by rw [W_id (by omega) (by omega)]; omega
    refine Lv.step (g := fun k m => laws_markIntS.s2 k (laws_markIntS.l2 k m) (1 + (i : Int)) (i : Int) o) ?_ (fun _ _ => rfl)
    simp only [laws_markIntS.s2, decide_eq_true_eq, Int.toNat_natCast, if_pos (show (i : Int) < (o.length : Int) by omega), if_pos (Int.natCast_nonneg _), if_pos hi', w1, w2]
    exact h3
theorem markIntS_ev {l : List Int} (hl : l.length ≤ 2097152) : ∃ r : List Int, r.length = l.length ∧ (∀ j : Nat, j < l.length → r[j]? = some (1 + (j : Int))) ∧ Ev (fun k => laws_markIntS.f k l 1) (1 + (l.length : Int), r) := by
  obtain ⟨r, h1, h2, h3⟩ := markIntS_l2 hl l.length 0 (by omega) (by omega) l rfl (fun j hj => absurd hj (Nat.not_lt_zero j))
  refine ⟨r, h1, h2, ?_⟩
  simp only [laws_markIntS.f]
  exact h3.ev.one (g := fun x1 => (x1.1.2.1, x1.2.1))
theorem heldIntS_l2 {r : List Int} {n : Nat} (hn : r.length = n) (hl : n ≤ 2097152) (h : ∀ j : Nat, j < n → r[j]? = some (1 + (j : Int))) : ∀ (d i : Nat), n - i = d → i ≤ n → Lv (fun k m => laws_heldIntS.l2 k m r (1 + (i : Int)) (i : Int)) (.inr ((1 + (n : Int), ()), ())) := by
  intro d
  induction d with
  | zero =>
    intro i hd hi
    obtain rfl : i = n := by omega
    refine Lv.step (g := fun k m => laws_heldIntS.s2 k (laws_heldIntS.l2 k m) r (1 + (i : Int)) (i : Int)) ?_ (fun _ _ => rfl)
    simp only [laws_heldIntS.s2, decide_eq_true_eq, if_neg (show ¬ (i : Int) < (r.length : Int) by omega)]
    exact .now fun _ _ => rfl
  | succ d ih =>
    intro i hd hi
    have hi' : i < n := by omega
    have e : rd r (i : Int) = 1 + (i : Int) := by simp [rd, List.getD_eq_getElem?_getD, h i hi']
    have w1 : W ((i : Int) + 1) = ((i + 1 : Nat) : Int) := by rw [W_id (by omega) (by omega)]; omega
    have w2 : W (1 + (i : Int) + 1) = 1 + ((i + 1 : Nat) : Int) := by rw [W_id (by omega) (by omega)]; omega
    refine Lv.step (g := fun k m => laws_heldIntS.s2 k (laws_heldIntS.l2 k m) r (1 + (i : Int)) (i : Int)) ?_ (fun _ _ => rfl)
    simp only [laws_heldIntS.s2, decide_eq_true_eq, if_pos (show (i : Int) < (r.length : Int) by omega), if_pos (Int.natCast_nonneg _), e, bne_self_eq_false, Bool.false_eq_true, if_false, w1, w2]
    exact ih (i + 1) (by omega) (by omega)
theorem heldIntS_ev {r : List Int} {n : Nat} (hn : r.length = n) (hl : n ≤ 2097152) (h : ∀ j : Nat, j < n → r[j]? = some (1 + (j : Int))) : Ev (fun k => laws_heldIntS.f k r 1) (1 + (n : Int)) := by
  simp only [laws_heldIntS.f]
  exact (heldIntS_l2 hn hl h n 0 (by omega) (by omega)).ev.bind (.now fun _ => rfl)
theorem markPlaneS_l2 {n : Nat} (hl : n ≤ 2097152) : ∀ (d i : Nat), n - i = d → i ≤ n → ∀ o : List S4, o.length = n → ∃ r : List S4, Lv (fun k m => laws_markPlaneS.l2 k m (1 + 4 * (i : Int)) (i : Int) o) (((), 1 + 4 * (n : Int), ()), (r, ())) := by
  intro d
  induction d with
  | zero =>
    intro i hd hi o ho
    obtain rfl : i = n := by omega
    refine ⟨o, ?_⟩
    refine Lv.step (g := fun k m => laws_markPlaneS.s2 k (laws_markPlaneS.l2 k m) (1 + 4 * (i : Int)) (i : Int) o) ?_ (fun _ _ => rfl)
    simp only [laws_markPlaneS.s2, decide_eq_true_eq, if_neg (show ¬ (i : Int) < (o.length : Int) by omega)]
    exact .now fun _ _ => rfl
  | succ d ih =>
    intro i hd hi o ho
    have hi' : i < o.length := by omega
    have w0 : W ((i : Int) + 1) = ((i + 1 : Nat) : Int) := by rw [W_id (by omega) (by omega)]; omega
    have w1 : W (1 + 4 * (i : Int) + 1) = 4 * (i : Int) + 2 := by rw [W_id (by omega) (by omega)]; omega
    have w2 : W (4 * (i : Int) + 2 + 1) = 4 * (i : Int) + 3 := by rw [W_id (by omega) (by omega)]; omega
    have w3 : W (4 * (i : Int) + 3 + 1) = 4 * (i : Int) + 4 := by rw [W_id (by omega) (by omega)]; omega
    have w4 : W (4 * (i : Int) + 4 + 1) = 1 + 4 * ((i + 1 : Nat) : Int) := by rw [W_id (by omega) (by omega)]; omega
    have key : ∀ o' : List S4, o'.length = n → ∃ r : List S4, Lv (fun k m => laws_markPlaneS.l2 k m (1 + 4 * ((i + 1 : Nat) : Int)) ((i + 1 : Nat) : Int) o') (((), 1 + 4 * (n : Int), ()), (r, ())) := ih (i + 1) (by omega) (by omega)
    have st : ∃ r : List S4, Lv (fun k m => laws_markPlaneS.s2 k (laws_markPlaneS.l2 k m) (1 + 4 * (i : Int)) (i : Int) o) (((), 1 + 4 * (n : Int), ()), (r, ())) := by
      simp only [laws_markPlaneS.s2, decide_eq_true_eq, List.length_set, Int.toNat_natCast, if_pos (show (i : Int) < (o.length : Int) by omega), if_pos (Int.natCast_nonneg _), if_pos hi', w0, w1, w2, w3, w4]
      exact key _ (by simp only [List.length_set]; exact ho)
    obtain ⟨r, hr⟩ := st
    exact ⟨r, Lv.step hr (fun _ _ => rfl)⟩
theorem markPlaneS_ev {l : List S4} (hl : l.length ≤ 2097152) : ∃ r : List S4, Ev (fun k => laws_markPlaneS.f k l 1) (1 + 4 * (l.length : Int), r) := by
  obtain ⟨r, h⟩ := markPlaneS_l2 hl l.length 0 (by omega) (by omega) l rfl
  refine ⟨r, ?_⟩
  simp only [laws_markPlaneS.f]
  exact h.ev.one (g := fun x1 => (x1.1.2.1, x1.2.1))
theorem FnExactBlame_pure {L : List S4} (hM : L.length ≤ 9223372036854775807) : ∃ k, laws_FnExactBlame.f k L = some true := by
  have key : Ev (fun k => laws_FnExactBlame.f k L) true := by
    have e : W (1048576 - (L.length : Int)) = 1048576 - L.length := W_id (by omega) (by omega)
    simp only [laws_FnExactBlame.f, laws_szPlaneS.f, decide_eq_true_eq, e]
    by_cases c : 1048576 - (L.length : Int) < 0
    · simp only [if_pos c, Option.bind_some, show (-1 : Int) < 0 by omega, if_true]; exact .now fun _ => rfl
    · simp only [if_neg c, Option.bind_some]
      have hl : L.length ≤ 2097152 := by omega
      obtain ⟨v, hv, s1, s2⟩ := Blame_same hl
      obtain ⟨r, m1⟩ := markPlaneS_ev hl
      obtain ⟨u, u1, u2, m2⟩ := markIntS_ev (l := v) (by omega)
      have hd := heldIntS_ev u1 (by omega) u2
      have ei := eqIntS_ev (l := v) (by omega)
      refine (toPlaneS_ev hl).bind (s1.bind ((toPlaneS_ev hl).bind (s2.bind (ei.bind ?_))))
      simp only [Bool.not_true, Bool.false_eq_true, if_false]
      refine (toPlaneS_ev hl).bind ((eqPlaneS_ev hl).bind ?_)
      simp only [Bool.not_true, Bool.false_eq_true, if_false]
      refine m1.bind ?_
      simp only [if_neg (show ¬ 1 + 4 * (L.length : Int) < 0 by omega)]
      refine ei.bind ?_
      simp only [Bool.not_true, Bool.false_eq_true, if_false]
      refine m2.bind (hd.bind ?_)
      simp only [if_neg (show ¬ 1 + (v.length : Int) < 0 by omega), bne_self_eq_false, Bool.false_eq_true, if_false]
      refine (toPlaneS_ev hl).bind (s2.bind (ei.bind ?_))
      simp only [Bool.not_true, Bool.false_eq_true, if_false]
      refine hd.bind (.now fun _ => ?_)
      simp only [if_neg (show ¬ 1 + (v.length : Int) < 0 by omega), bne_self_eq_false, Bool.false_eq_true, if_false]
  obtain ⟨K, h⟩ := key
  exact ⟨K, h K (Nat.le_refl _)⟩
end Go.Proofs.Ytfgaeenlnkioaaa.Q
