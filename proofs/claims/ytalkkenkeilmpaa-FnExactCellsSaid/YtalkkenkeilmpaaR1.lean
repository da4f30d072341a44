/- The cells of a tree, by both programs. -/
import Derived.Test.YtalkkenkeilmpaaP6q
namespace Go.Proofs.Ytalkkenkeilmpaa.Q
open Go Go.RowKit Go.Proofs Go.Proofs.Ytalkkenkeilmpaa.Ev Go.Proofs.Ytalkkenkeilmpaa.G
set_option linter.unusedSimpArgs false
set_option linter.unusedVariables false

theorem look_cases {b : Bool} {p : S4} {l : List Tree} {L : List S4} (h : look (.mk b p l) L = true) : l = [] ∨ ∃ x y, l = [x, y] ∧ look x (L ++ [p]) = true ∧ look y (L ++ [flp p]) = true := by
  match l with
  | [] => exact .inl rfl
  | [x] => simp [look] at h
  | [x, y] =>
    simp only [look, Bool.and_eq_true] at h
    exact .inr ⟨x, y, rfl, h.1.2, h.2⟩
  | x :: y :: z :: r => simp [look] at h
theorem sok_look {T : Tree} (h : sok T = true) : look T [] = true ∧ nn T ≤ 300 := by
  simpa [sok] using h
theorem look_okp {b : Bool} {p : S4} {x y : Tree} {L : List S4} (h : look (.mk b p [x, y]) L = true) : okp p = true := by
  simp only [look, Bool.and_eq_true] at h
  exact h.1.1.1.1.1.2
def cells : Tree → Bool → List S4 → List (List S4)
  | .mk _ p [x, y], q, L => cells x q (L ++ [p]) ++ cells y q (L ++ [flp p])
  | .mk b _ [], q, L => if (b == q) = true then [L] else []
  | _, _, _ => []
theorem clone_f (k : Nat) {L : List S4} (h : L.length ≤ 24) : slices_Clone.f k L = some L := by
  unfold slices_Clone.f; rw [if_pos (lt47_ok (by omega))]
theorem cells_ok {T : Tree} (hT : TW T) (q : Bool) : ∀ L : List S4, look T L = true → L.length ≤ 24 → nn T ≤ 300 → (cells T q L).length ≤ nn T + 1 ∧ (∀ l ∈ cells T q L, l.length ≤ 24) ∧ Ev (fun k => spec_l8Cells.f k T q L) (cells T q L) ∧ Ev (fun k => impl_Solid_cells.f k T q L) (cells T q L) := by
  induction hT with
  | mk b p l hl h ih =>
    intro L hL h24 hn
    rcases look_cases hL with rfl | ⟨x, y, rfl, h1, h2⟩
    · have ec : cells (.mk b p []) q L = if (b == q) = true then [L] else [] := by simp [cells]
      rw [ec]
      refine ⟨by split <;> simp, fun l hl => ?_, Ev.succ (g := fun k => spec_l8Cells.fs k (spec_l8Cells.f k) (.mk b p []) q L) ?_ (fun k => spec_l8Cells.fS k _ _ _), Ev.succ (g := fun k => impl_Solid_cells.fs k (impl_Solid_cells.f k) (.mk b p []) q L) ?_ (fun k => impl_Solid_cells.fS k _ _ _)⟩
      · split at hl
        · simp at hl; subst hl; exact h24
        · cases hl
      · simp only [spec_l8Cells.fs, leaf_f, T1_eq, Option.bind_some, Tree.kids, Tree.inn, List.length_nil, Int.natCast_zero, beq_self_eq_true, if_true, Nat.zero_add, List.nil_append, if_pos (lt47_ok (show L.length < 2199023255552 by omega))]
        split <;> exact .now fun _ => rfl
      · simp only [impl_Solid_cells.fs, isLeaf_f, T1_eq, Option.bind_some, Tree.kids, Tree.inn, List.length_nil, Int.natCast_zero, beq_self_eq_true, if_true, clone_f _ h24]
        split <;> exact .now fun _ => rfl
    · have r0 : rd [x, y] 0 = x := rfl
      have r1 : rd [x, y] 1 = y := rfl
      have en : nn (.mk b p [x, y]) = 1 + (nn x + nn y) := by simp [nn, nnL]
      rw [en] at hn ⊢
      have h23 : L.length ≠ 24 := by
        simp only [look, Bool.and_eq_true, decide_eq_true_eq] at hL
        exact hL.1.1.1.1.2
      have la : ∀ z : S4, (L ++ [z]).length ≤ 24 := fun z => by simp; omega
      obtain ⟨a1, a2, a3, a4⟩ := ih x (by simp) _ h1 (la _) (by omega)
      obtain ⟨b1, b2, b3, b4⟩ := ih y (by simp) _ h2 (la _) (by omega)
      have hp := okp_bd4 (look_okp hL)
      have ec : cells (.mk b p [x, y]) q L = cells x q (L ++ [p]) ++ cells y q (L ++ [flp p]) := by simp [cells]
      have h47 : lt47 ((cells x q (L ++ [p])).length + (cells y q (L ++ [flp p])).length) = true := lt47_ok (by omega)
      rw [ec]
      refine ⟨by simp only [List.length_append]; omega, fun l hl => ?_, Ev.succ (g := fun k => spec_l8Cells.fs k (spec_l8Cells.f k) (.mk b p [x, y]) q L) ?_ (fun k => spec_l8Cells.fS k _ _ _), Ev.succ (g := fun k => impl_Solid_cells.fs k (impl_Solid_cells.f k) (.mk b p [x, y]) q L) ?_ (fun k => impl_Solid_cells.fS k _ _ _)⟩
      · rcases List.mem_append.1 hl with hl | hl
        · exact a2 l hl
        · exact b2 l hl
      · simp only [spec_l8Cells.fs, leaf_f, T1_eq, Option.bind_some, eq_iff, Tree.kids, Tree.p, List.length_cons, List.length_nil, show ((0 + 1 + 1 : Nat) : Int) = 2 from rfl, show ¬ ((2 : Int) = 0) by omega, if_false, if_pos (show (0 : Int) < 2 by omega), if_pos (show (1 : Int) < 2 by omega), if_pos (show (0 : Int) ≤ 1 by omega), Int.le_refl, if_true, r0, r1, l8Path_f _ (show L.length ≤ 2097152 by omega), l3Flip_f _ hp]
        refine a3.bind (b3.bind ?_)
        simp only [if_pos h47]
        exact .now fun _ => rfl
      · simp only [impl_Solid_cells.fs, isLeaf_f, T1_eq, Option.bind_some, eq_iff, Tree.kids, Tree.p, List.length_cons, List.length_nil, show ((0 + 1 + 1 : Nat) : Int) = 2 from rfl, show ¬ ((2 : Int) = 0) by omega, if_false, if_pos (show (0 : Int) < 2 by omega), if_pos (show (1 : Int) < 2 by omega), if_pos (show (0 : Int) ≤ 1 by omega), Int.le_refl, if_true, r0, r1, with_f _ (show L.length ≤ 2097152 by omega), flip_f _ hp]
        refine a4.bind (b4.bind ?_)
        simp only [if_pos h47]
        exact .now fun _ => rfl
theorem Cells_same {T : Tree} (hT : TW T) (q : Bool) : ∃ V : List (List S4), V.length ≤ 301 ∧ (∀ l ∈ V, l.length ≤ 24) ∧ Ev (fun k => spec_Cells.f k T q) V ∧ Ev (fun k => impl_Cells.f k T q) V := by
  unfold spec_Cells.f impl_Cells.f
  simp only [T1_eq]
  cases hs : sok T with
  | false =>
    refine ⟨[], by simp, fun l hl => (by cases hl), (spec_SolidOk_ev hT).bind ?_, (impl_SolidOk_ev hT).bind ?_⟩
    · rw [hs]; exact .now fun _ => rfl
    · rw [hs]; exact .now fun _ => rfl
  | true =>
    obtain ⟨h1, h2⟩ := sok_look hs
    obtain ⟨a1, a2, a3, a4⟩ := cells_ok hT q [] h1 (by simp) h2
    refine ⟨_, by omega, a2, (spec_SolidOk_ev hT).bind ?_, (impl_SolidOk_ev hT).bind ?_⟩
    · rw [hs]
      simp only [Bool.not_true, Bool.false_eq_true, if_false]
      exact a3.bind (.now fun _ => rfl)
    · rw [hs]
      simp only [Bool.not_true, Bool.false_eq_true, if_false]
      exact a4.bind (.now fun _ => rfl)

/-! ### equal rows -/
theorem eqPlane_selfQ (k : Nat) (p : S4) : laws_eqPlane.f k p p = some true := by simp [laws_eqPlane.f]
theorem eqPlaneS_l4 {l : List S4} (hl : l.length ≤ 2097152) : ∀ (d i : Nat), l.length - i = d → i ≤ l.length → Lv (fun k m => laws_eqPlaneS.l4 k m l l (i : Int)) (.inr ((), ())) := by
  intro d
  induction d with
  | zero =>
    intro i hd hi
    refine Lv.step (g := fun k m => laws_eqPlaneS.s4 k (laws_eqPlaneS.l4 k m) l l (i : Int)) ?_ (fun _ _ => rfl)
    simp only [laws_eqPlaneS.s4, decide_eq_true_eq, if_neg (show ¬ (i : Int) < (l.length : Int) by omega)]
    exact .now fun _ _ => rfl
  | succ d ih =>
    intro i hd hi
    have hi' : i < l.length := by omega
    refine Lv.step (g := fun k m => laws_eqPlaneS.s4 k (laws_eqPlaneS.l4 k m) l l (i : Int)) ?_ (fun _ _ => rfl)
    simp only [laws_eqPlaneS.s4, eqPlane_selfQ, Option.bind_some, decide_eq_true_eq, if_pos (show (i : Int) < (l.length : Int) by omega), if_pos (Int.natCast_nonneg _), wrn hi' hl, Bool.not_true, Bool.false_eq_true, if_false]
    exact ih (i + 1) (by omega) (by omega)
theorem eqPlaneS_ev {l : List S4} (hl : l.length ≤ 2097152) : Ev (fun k => laws_eqPlaneS.f k l l) true := by
  simp only [laws_eqPlaneS.f, ne_iff, ne_eq, not_true_eq_false, if_false]
  exact (eqPlaneS_l4 hl l.length 0 (by omega) (by omega)).ev.bind (.now fun _ => rfl)
theorem rd_row {l : List (List S4)} {i : Nat} (h : i < l.length) : rd l (i : Int) = l[i] := by simp [rd, List.getD_eq_getElem?_getD, h]
theorem eqSS_l4 {l : List (List S4)} (hl : l.length ≤ 2097152) (hr : ∀ r ∈ l, r.length ≤ 24) : ∀ (d i : Nat), l.length - i = d → i ≤ l.length → Lv (fun k m => laws_eqPlaneSS.l4 k m l l (i : Int)) (.inr ((), ())) := by
  intro d
  induction d with
  | zero =>
    intro i hd hi
    refine Lv.step (g := fun k m => laws_eqPlaneSS.s4 k (laws_eqPlaneSS.l4 k m) l l (i : Int)) ?_ (fun _ _ => rfl)
    simp only [laws_eqPlaneSS.s4, decide_eq_true_eq, if_neg (show ¬ (i : Int) < (l.length : Int) by omega)]
    exact .now fun _ _ => rfl
  | succ d ih =>
    intro i hd hi
    have hi' : i < l.length := by omega
    refine Lv.step (g := fun k m => laws_eqPlaneSS.s4 k (laws_eqPlaneSS.l4 k m) l l (i : Int)) ?_ (fun _ _ => rfl)
    simp only [laws_eqPlaneSS.s4, decide_eq_true_eq, if_pos (show (i : Int) < (l.length : Int) by omega), if_pos (Int.natCast_nonneg _), wrn hi' hl, rd_row hi']
    refine Lv.bind (eqPlaneS_ev (l := l[i]) (by have := hr _ (List.getElem_mem hi'); omega)) ?_
    simp only [Bool.not_true, Bool.false_eq_true, if_false]
    exact ih (i + 1) (by omega) (by omega)
theorem eqSS_ev {l : List (List S4)} (hl : l.length ≤ 2097152) (hr : ∀ r ∈ l, r.length ≤ 24) : Ev (fun k => laws_eqPlaneSS.f k l l) true := by
  simp only [laws_eqPlaneSS.f, ne_iff, ne_eq, not_true_eq_false, if_false]
  exact (eqSS_l4 hl hr l.length 0 (by omega) (by omega)).ev.bind (.now fun _ => rfl)

/-! ### the marks -/
def mkp (s : Int) (j : Nat) : S4 := ⟨s + 4 * (j : Int), s + 4 * (j : Int) + 1, s + 4 * (j : Int) + 2, s + 4 * (j : Int) + 3⟩
def mrow (s : Int) (n : Nat) : List S4 := (List.range n).map (mkp s)
theorem mrow_get {s : Int} {n j : Nat} (h : j < n) : (mrow s n)[j]? = some (mkp s j) := by simp [mrow, h]
theorem mrow_len {s : Int} {n : Nat} : (mrow s n).length = n := by simp [mrow]
theorem mark_l2 {n : Nat} (hl : n ≤ 2097152) {s : Int} (h0 : 0 ≤ s) (h1 : s ≤ 1000000000000) : ∀ (d i : Nat), n - i = d → i ≤ n → ∀ o : List S4, o.length = n → (∀ j : Nat, j < i → o[j]? = some (mkp s j)) →
    Lv (fun k m => laws_markPlaneS.l2 k m (s + 4 * (i : Int)) (i : Int) o) (((), s + 4 * (n : Int), ()), (mrow s n, ())) := by
  intro d
  induction d with
  | zero =>
    intro i hd hi o ho hj
    obtain rfl : i = n := by omega
    have e : o = mrow s i := List.ext_getElem? fun j => by
      by_cases c : j < i
      · rw [hj j c, mrow_get c]
      · rw [List.getElem?_eq_none (by omega), List.getElem?_eq_none (by rw [mrow_len]; omega)]
    rw [← e]
    refine Lv.step (g := fun k m => laws_markPlaneS.s2 k (laws_markPlaneS.l2 k m) (s + 4 * (i : Int)) (i : Int) o) ?_ (fun _ _ => rfl)
    simp only [laws_markPlaneS.s2, decide_eq_true_eq, if_neg (show ¬ (i : Int) < (o.length : Int) by omega)]
    exact .now fun _ _ => rfl
  | succ d ih =>
    intro i hd hi o ho hj
    have hi' : i < o.length := by omega
    have w0 : W ((i : Int) + 1) = ((i + 1 : Nat) : Int) := by rw [W_id (by omega) (by omega)]; omega
    have w1 : W (s + 4 * (i : Int) + 1) = s + 4 * (i : Int) + 1 := W_id (by omega) (by omega)
    have w2 : W (s + 4 * (i : Int) + 1 + 1) = s + 4 * (i : Int) + 2 := by rw [W_id (by omega) (by omega)]; omega
    have w3 : W (s + 4 * (i : Int) + 2 + 1) = s + 4 * (i : Int) + 3 := by rw [W_id (by omega) (by omega)]; omega
    have w4 : W (s + 4 * (i : Int) + 3 + 1) = s + 4 * ((i + 1 : Nat) : Int) := by rw [W_id (by omega) (by omega)]; omega
    have h3 := ih (i + 1) (by omega) (by omega) (o.set i (mkp s i)) (by simp [ho]) (fun j hj' => by
      rw [List.getElem?_set]
      by_cases c : i = j
      · subst c; rw [if_pos rfl, if_pos hi']
      · rw [if_neg c]; exact hj j (by omega))
    refine Lv.step (g := fun k m => laws_markPlaneS.s2 k (laws_markPlaneS.l2 k m) (s + 4 * (i : Int)) (i : Int) o) ?_ (fun _ _ => rfl)
    have gs : ∀ (l : List S4) (x : S4), i < l.length → (l.set i x).getD i default = x := fun l x h => by simp [List.getD_eq_getElem?_getD, h]
    have hs : ∀ (l : List S4) (x y : S4), (l.set i x).set i y = l.set i y := fun l x y => List.set_set ..
    simp only [laws_markPlaneS.s2, decide_eq_true_eq, List.length_set, Int.toNat_natCast, if_pos (show (i : Int) < (o.length : Int) by omega), if_pos (Int.natCast_nonneg _), if_pos hi', w0, w1, w2, w3, w4, gs _ _ hi', hs]
    exact h3
theorem mark_ev {l : List S4} (hl : l.length ≤ 2097152) {s : Int} (h0 : 0 ≤ s) (h1 : s ≤ 1000000000000) : Ev (fun k => laws_markPlaneS.f k l s) (s + 4 * (l.length : Int), mrow s l.length) := by
  have h3 := mark_l2 hl h0 h1 l.length 0 (by omega) (by omega) l rfl (fun j hj => absurd hj (Nat.not_lt_zero j))
  simp only [Int.natCast_zero, Int.mul_zero, Int.add_zero] at h3
  simp only [laws_markPlaneS.f]
  exact h3.ev.one (g := fun x1 => (x1.1.2.1, x1.2.1))
theorem held_l2 {n : Nat} (hl : n ≤ 2097152) {s : Int} (h0 : 0 ≤ s) (h1 : s ≤ 1000000000000) : ∀ (d i : Nat), n - i = d → i ≤ n → Lv (fun k m => laws_heldPlaneS.l2 k m (mrow s n) (s + 4 * (i : Int)) (i : Int)) (.inr ((s + 4 * (n : Int), ()), ())) := by
  intro d
  have hn : (mrow s n).length = n := mrow_len
  induction d with
  | zero =>
    intro i hd hi
    obtain rfl : i = n := by omega
    refine Lv.step (g := fun k m => laws_heldPlaneS.s2 k (laws_heldPlaneS.l2 k m) (mrow s i) (s + 4 * (i : Int)) (i : Int)) ?_ (fun _ _ => rfl)
    simp only [laws_heldPlaneS.s2, decide_eq_true_eq, if_neg (show ¬ (i : Int) < ((mrow s i).length : Int) by omega)]
    exact .now fun _ _ => rfl
  | succ d ih =>
    intro i hd hi
    have hi' : i < n := by omega
    have e : rd (mrow s n) (i : Int) = mkp s i := by simp [rd, List.getD_eq_getElem?_getD, mrow_get hi']
    have w0 : W ((i : Int) + 1) = ((i + 1 : Nat) : Int) := by rw [W_id (by omega) (by omega)]; omega
    have w1 : W (s + 4 * (i : Int) + 1) = s + 4 * (i : Int) + 1 := W_id (by omega) (by omega)
    have w2 : W (s + 4 * (i : Int) + 1 + 1) = s + 4 * (i : Int) + 2 := by rw [W_id (by omega) (by omega)]; omega
    have w3 : W (s + 4 * (i : Int) + 2 + 1) = s + 4 * (i : Int) + 3 := by rw [W_id (by omega) (by omega)]; omega
    have w4 : W (s + 4 * (i : Int) + 3 + 1) = s + 4 * ((i + 1 : Nat) : Int) := by rw [W_id (by omega) (by omega)]; omega
    refine Lv.step (g := fun k m => laws_heldPlaneS.s2 k (laws_heldPlaneS.l2 k m) (mrow s n) (s + 4 * (i : Int)) (i : Int)) ?_ (fun _ _ => rfl)
    simp only [laws_heldPlaneS.s2, decide_eq_true_eq, if_pos (show (i : Int) < ((mrow s n).length : Int) by omega), if_pos (Int.natCast_nonneg _), e, mkp, w0, w1, w2, w3, w4, bne_self_eq_false, Bool.false_eq_true, if_false]
    exact ih (i + 1) (by omega) (by omega)
theorem held_ev {n : Nat} (hl : n ≤ 2097152) {s : Int} (h0 : 0 ≤ s) (h1 : s ≤ 1000000000000) : Ev (fun k => laws_heldPlaneS.f k (mrow s n) s) (s + 4 * (n : Int)) := by
  have h3 := held_l2 hl h0 h1 n 0 (by omega) (by omega)
  simp only [Int.natCast_zero, Int.mul_zero, Int.add_zero] at h3
  simp only [laws_heldPlaneS.f]
  exact h3.ev.bind (.now fun _ => rfl)
def fin : Int → List (List S4) → Int
  | s, [] => s
  | s, l :: ls => fin (s + 4 * (l.length : Int)) ls
def mrows : Int → List (List S4) → List (List S4)
  | _, [] => []
  | s, l :: ls => mrow s l.length :: mrows (s + 4 * (l.length : Int)) ls
theorem fin_le : ∀ (L : List (List S4)) (s : Int), s ≤ fin s L
  | [], s => Int.le_refl _
  | l :: ls, s => by have := fin_le ls (s + 4 * (l.length : Int)); simp only [fin]; omega
theorem mrows_len : ∀ (L : List (List S4)) (s : Int), (mrows s L).length = L.length
  | [], s => rfl
  | l :: ls, s => by simp [mrows, mrows_len ls]
theorem rows_ev : ∀ (L : List (List S4)) (s : Int), 0 ≤ s → s + 100 * (L.length : Int) ≤ 1000000000000 → (∀ l ∈ L, l.length ≤ 24) → Ev (fun k => ck.M.rows (laws_markPlaneS.f k) L s) (fin s L, mrows s L)
  | [], s, _, _, _ => .now fun _ => rfl
  | l :: ls, s, h0, h1, h2 => by
    have hl := h2 l (by simp)
    simp only [List.length_cons] at h1
    simp only [ck.M.rows]
    refine (mark_ev (l := l) (by omega) h0 (by omega)).bind ?_
    exact (rows_ev ls (s + 4 * (l.length : Int)) (by omega) (by omega) fun x hx => h2 x (List.mem_cons_of_mem _ hx)).bind (.now fun _ => rfl)
theorem heldSS_l2 {R : List (List S4)} (hR : R.length ≤ 1000) : ∀ (L : List (List S4)) (i : Nat) (s : Int), 0 ≤ s → s + 100 * (L.length : Int) ≤ 1000000000000 → (∀ l ∈ L, l.length ≤ 24) → R.drop i = mrows s L → Lv (fun k m => laws_heldPlaneSS.l2 k m R s (i : Int)) (.inr ((fin s L, ()), ())) := by
  intro L
  induction L with
  | nil =>
    intro i s h0 h1 h2 hd
    have : R.length ≤ i := by have := congrArg List.length hd; simp [mrows] at this; omega
    refine Lv.step (g := fun k m => laws_heldPlaneSS.s2 k (laws_heldPlaneSS.l2 k m) R s (i : Int)) ?_ (fun _ _ => rfl)
    simp only [laws_heldPlaneSS.s2, decide_eq_true_eq, if_neg (show ¬ (i : Int) < (R.length : Int) by omega)]
    exact .now fun _ _ => rfl
  | cons l ls ih =>
    intro i s h0 h1 h2 hd
    have hi : i < R.length := by
      have := congrArg List.length hd
      simp [mrows] at this; omega
    rw [List.drop_eq_getElem_cons hi] at hd
    simp only [mrows, List.cons.injEq] at hd
    have hl := h2 l (by simp)
    simp only [List.length_cons] at h1
    refine Lv.step (g := fun k m => laws_heldPlaneSS.s2 k (laws_heldPlaneSS.l2 k m) R s (i : Int)) ?_ (fun _ _ => rfl)
    simp only [laws_heldPlaneSS.s2, decide_eq_true_eq, if_pos (show (i : Int) < (R.length : Int) by omega), if_pos (Int.natCast_nonneg _), wrn hi (show R.length ≤ 2097152 by omega), rd_row hi, hd.1]
    refine Lv.bind (held_ev (n := l.length) (by omega) h0 (by omega)) ?_
    simp only [if_neg (show ¬ s + 4 * (l.length : Int) < 0 by omega)]
    exact ih (i + 1) _ (by omega) (by omega) (fun x hx => h2 x (List.mem_cons_of_mem _ hx)) hd.2
theorem FnExactCells_pure {T : Tree} (hM : TM T) (q : Bool) : ∃ k, laws_FnExactCells.f k T q = some true := by
  have key : Ev (fun k => laws_FnExactCells.f k T q) true := by
    simp only [laws_FnExactCells.f, T1_eq, decide_eq_true_eq]
    refine law_of hM (R := fun k T => _) fun hT hc => ?_
    obtain ⟨v, hv, hr, s1, s2⟩ := Cells_same hT q
    have hb : 1 + 5 * (cntL T.kids : Int) ≤ 4611686018427387904 := by omega
    have m2 := rows_ev v 1 (by omega) (by omega) hr
    have hd : Ev (fun k => laws_heldPlaneSS.f k (mrows 1 v) 1) (fin 1 v) := by
      simp only [laws_heldPlaneSS.f]
      exact (heldSS_l2 (by rw [mrows_len]; omega) v 0 1 (by omega) (by omega) hr rfl).ev.bind (.now fun _ => rfl)
    have fl := fin_le v 1
    have ei := eqSS_ev (l := v) (by omega) hr
    have tt := to_ok hT
    refine tt.bind (s1.bind (tt.bind (s2.bind (ei.bind ?_))))
    simp only [Bool.not_true, Bool.false_eq_true, if_false]
    refine tt.bind ((eq_ok hT).bind ?_)
    simp only [Bool.not_true, Bool.false_eq_true, if_false, markSolid_f _ hb, Option.bind_some, if_neg (show ¬ 1 + 5 * (cntL T.kids : Int) < 0 by omega)]
    refine ei.bind ?_
    simp only [Bool.not_true, Bool.false_eq_true, if_false, laws_markPlaneSS.f]
    refine m2.bind (hd.bind ?_)
    simp only [if_neg (show ¬ fin 1 v < 0 by omega), bne_self_eq_false, Bool.false_eq_true, if_false]
    refine tt.bind (s2.bind (ei.bind ?_))
    simp only [Bool.not_true, Bool.false_eq_true, if_false]
    refine hd.bind (.now fun _ => ?_)
    simp only [if_neg (show ¬ fin 1 v < 0 by omega), bne_self_eq_false, Bool.false_eq_true, if_false]
  obtain ⟨K, h⟩ := key
  exact ⟨K, h K (Nat.le_refl _)⟩
end Go.Proofs.Ytalkkenkeilmpaa.Q
