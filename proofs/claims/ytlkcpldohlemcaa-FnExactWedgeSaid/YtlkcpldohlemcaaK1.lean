/- Trees: compared; marked and looked at again. -/
import Derived.Test.YtlkcpldohlemcaaP4
namespace Go.Proofs.Ytlkcpldohlemcaa.Q
open Go Go.RowKit Go.Proofs Go.Proofs.Ytlkcpldohlemcaa.Ev Go.Proofs.Ytlkcpldohlemcaa.G
set_option linter.unusedSimpArgs false
set_option linter.unusedVariables false

/-- the lists are no longer than memory is. -/
inductive TW : Tree → Prop
  | mk (b : Bool) (p : S4) (l : List Tree) (hl : l.length ≤ 1099511627776) (h : ∀ t ∈ l, TW t) : TW (.mk b p l)
theorem rd_mem {l : List Tree} {i : Nat} (h : i < l.length) : rd l (i : Int) ∈ l := by
  have e : rd l (i : Int) = l[i] := by simp [rd, List.getD_eq_getElem?_getD, h]
  rw [e]; exact List.getElem_mem h
theorem rd_get {l : List Tree} {i : Nat} (h : i < l.length) : rd l (i : Int) = l[i] := by simp [rd, List.getD_eq_getElem?_getD, h]
theorem wrl {n c : Nat} (h : c < n) (hl : n ≤ 1099511627776) : W ((c : Int) + 1) = ((c + 1 : Nat) : Int) := by rw [W_id (by omega) (by omega)]; omega

theorem eqPlane_self (k : Nat) (p : S4) : laws_eqPlane.f k p p = some true := by simp [laws_eqPlane.f]
theorem eqS_loop {l : List Tree} (hl : l.length ≤ 1099511627776) (h : ∀ t ∈ l, Ev (fun k => laws_eqSolid.f k t t) true) : ∀ (d i : Nat), l.length - i = d → i ≤ l.length →
    Lv (fun k m => laws_eqSolidS.l4 k (laws_eqSolid.f k) (laws_eqSolidS.f k) m l l (i : Int)) (.inr ((), ())) := by
  intro d
  induction d with
  | zero =>
    intro i hd hi
    refine Lv.step (g := fun k m => laws_eqSolidS.s4 k (laws_eqSolid.f k) (laws_eqSolidS.f k) (laws_eqSolidS.l4 k (laws_eqSolid.f k) (laws_eqSolidS.f k) m) l l (i : Int)) ?_ (fun _ _ => rfl)
    simp only [laws_eqSolidS.s4, decide_eq_true_eq, if_neg (show ¬ (i : Int) < (l.length : Int) by omega)]
    exact .now fun _ _ => rfl
  | succ d ih =>
    intro i hd hi
    have hi' : i < l.length := by omega
    refine Lv.step (g := fun k m => laws_eqSolidS.s4 k (laws_eqSolid.f k) (laws_eqSolidS.f k) (laws_eqSolidS.l4 k (laws_eqSolid.f k) (laws_eqSolidS.f k) m) l l (i : Int)) ?_ (fun _ _ => rfl)
    simp only [laws_eqSolidS.s4, decide_eq_true_eq, if_pos (show (i : Int) < (l.length : Int) by omega), if_pos (Int.natCast_nonneg _), wrl hi' hl, T1_eq]
    refine Lv.bind (h _ (rd_mem hi')) ?_
    simp only [Bool.not_true, Bool.false_eq_true, if_false]
    exact ih (i + 1) (by omega) (by omega)
theorem eq_ok {T : Tree} (hT : TW T) : Ev (fun k => laws_eqSolid.f k T T) true := by
  induction hT with
  | mk b p l hl h ih =>
    have S : Ev (fun k => laws_eqSolidS.f k l l) true := by
      refine Ev.succ (g := fun k => laws_eqSolidS.fs k (laws_eqSolid.f k) (laws_eqSolidS.f k) l l) ?_ (fun k => laws_eqSolidS.fS k l l)
      simp only [laws_eqSolidS.fs, ne_iff, ne_eq, not_true_eq_false, if_false]
      exact (eqS_loop hl ih l.length 0 (by omega) (by omega)).ev.bind (.now fun _ => rfl)
    refine Ev.succ (g := fun k => laws_eqSolid.fs k (laws_eqSolid.f k) (laws_eqSolidS.f k) (.mk b p l) (.mk b p l)) ?_ (fun k => laws_eqSolid.fS k _ _)
    simp only [laws_eqSolid.fs, eqPlane_self, Option.bind_some, beq_self_eq_true, Bool.not_true, Bool.false_eq_true, if_false]
    refine Ev.bind (f := fun k => laws_eqSolidS.f k l l) S (.now fun _ => by simp)


mutual
def cntT : Tree → Nat
  | .mk _ _ l => 1 + cntL l
def cntL : List Tree → Nat
  | [] => 0
  | t :: l => cntT t + cntL l
end
theorem cntL_len : ∀ l : List Tree, l.length ≤ cntL l
  | [] => Nat.zero_le _
  | t :: l => by
    have := cntL_len l
    cases t
    simp only [List.length_cons, cntL, cntT]; omega
mutual
theorem mkT_num : ∀ (t : Tree) (k : Int), 0 ≤ k → k + 5 * (cntT t : Int) ≤ 4611686018427387904 → (mkT k t).1 = k + 5 * (cntT t : Int)
  | .mk b p l, k, h0, h => by
    simp only [cntT] at h ⊢
    have e : W (W (W (W (W (k + 1) + 1) + 1) + 1) + 1) = k + 5 := by
      rw [W_id (x := k + 1) (by omega) (by omega), W_id (x := k + 1 + 1) (by omega) (by omega), W_id (x := k + 1 + 1 + 1) (by omega) (by omega), W_id (x := k + 1 + 1 + 1 + 1) (by omega) (by omega), W_id (x := k + 1 + 1 + 1 + 1 + 1) (by omega) (by omega)]; omega
    simp only [mkT, e]
    rw [mkL_num l (k + 5) (by omega) (by omega)]; omega
theorem mkL_num : ∀ (l : List Tree) (k : Int), 0 ≤ k → k + 5 * (cntL l : Int) ≤ 4611686018427387904 → (mkL k l).1 = k + 5 * (cntL l : Int)
  | [], k, h0, h => by simp [mkL, cntL]
  | t :: l, k, h0, h => by
    simp only [cntL] at h ⊢
    have e := mkT_num t k h0 (by omega)
    simp only [mkL]
    rw [e, mkL_num l _ (by omega) (by omega)]; omega
end
theorem mkL_app : ∀ (a b : List Tree) (k : Int), mkL k (a ++ b) = ((mkL (mkL k a).1 b).1, (mkL k a).2 ++ (mkL (mkL k a).1 b).2)
  | [], b, k => by simp [mkL]
  | t :: a, b, k => by simp [mkL, mkL_app a b]
theorem cntL_app : ∀ (a b : List Tree), cntL (a ++ b) = cntL a + cntL b
  | [], b => by simp [cntL]
  | t :: a, b => by simp [cntL, cntL_app a b]; omega
theorem held_loop {k : Int} (h0 : 0 ≤ k) : ∀ (suf pre : List Tree), k + 5 * (cntL (pre ++ suf) : Int) ≤ 4611686018427387904 → (∀ t ∈ suf, ∀ q : Int, 0 ≤ q → q + 5 * (cntL t.kids : Int) ≤ 4611686018427387904 → Ev (fun j => laws_heldSolidS.f j (mkL q t.kids).2 q) (mkL q t.kids).1) →
    Lv (fun j m => laws_heldSolidS.l2 j (laws_heldSolidS.f j) m (mkL k (pre ++ suf)).2 (mkL k pre).1 (pre.length : Int)) (.inr (((mkL k (pre ++ suf)).1, ()), ())) := by
  intro suf
  induction suf with
  | nil =>
    intro pre hb _
    rw [List.append_nil]
    refine Lv.step (g := fun j m => laws_heldSolidS.s2 j (laws_heldSolidS.f j) (laws_heldSolidS.l2 j (laws_heldSolidS.f j) m) (mkL k pre).2 (mkL k pre).1 (pre.length : Int)) ?_ (fun _ _ => rfl)
    simp only [laws_heldSolidS.s2, decide_eq_true_eq, mkL_len, if_neg (show ¬ (pre.length : Int) < (pre.length : Int) by omega)]
    exact .now fun _ _ => rfl
  | cons t suf ih =>
    intro pre hb hk
    have hlen : (mkL k (pre ++ t :: suf)).2.length = (pre ++ t :: suf).length := mkL_len _ _
    have hl : pre.length < (mkL k (pre ++ t :: suf)).2.length := by rw [hlen]; simp
    have hb' := hb
    rw [cntL_app] at hb'
    simp only [cntL] at hb'
    have hp := mkL_num pre k h0 (by omega)
    have e : rd (mkL k (pre ++ t :: suf)).2 (pre.length : Int) = (mkT (mkL k pre).1 t).2 := by
      rw [mkL_app]
      have : (mkL k pre).2.length = pre.length := mkL_len _ _
      simp only [rd, List.getD_eq_getElem?_getD, Int.toNat_natCast]
      rw [List.getElem?_append_right (by omega), this, Nat.sub_self]
      simp [mkL]
    have hnum : (mkL k (pre ++ [t])).1 = (mkT (mkL k pre).1 t).1 := by rw [mkL_snoc]
    have hcl := cntL_len (pre ++ t :: suf)
    have w1 : W ((pre.length : Int) + 1) = (((pre ++ [t]).length : Nat) : Int) := by
      have : pre.length < (pre ++ t :: suf).length := by simp
      rw [W_id (by omega) (by omega)]; simp
    have step := ih (pre ++ [t]) (by rw [List.append_assoc]; exact hb) (fun x hx => hk x (List.mem_cons_of_mem _ hx))
    rw [List.append_assoc, List.singleton_append] at step
    refine Lv.step (g := fun j m => laws_heldSolidS.s2 j (laws_heldSolidS.f j) (laws_heldSolidS.l2 j (laws_heldSolidS.f j) m) (mkL k (pre ++ t :: suf)).2 (mkL k pre).1 (pre.length : Int)) ?_ (fun _ _ => rfl)
    obtain ⟨b, p, l⟩ := t
    simp only [laws_heldSolidS.s2, decide_eq_true_eq, if_pos (show (pre.length : Int) < ((mkL k (pre ++ Tree.mk b p l :: suf)).2.length : Int) by omega), if_pos (Int.natCast_nonneg _), e, mkT, Tree.inn, Tree.p, Tree.kids, bne_self_eq_false, beq_self_eq_true, Bool.not_true, Bool.false_eq_true, if_false, show ¬ ((3 : Int) = 0) by decide]
    have e5 : W (W (W (W (W ((mkL k pre).1 + 1) + 1) + 1) + 1) + 1) = (mkL k pre).1 + 5 := by
      simp only [cntT] at hb'
      rw [hp]
      rw [W_id (x := k + 5 * (cntL pre : Int) + 1) (by omega) (by omega), W_id (x := k + 5 * (cntL pre : Int) + 1 + 1) (by omega) (by omega), W_id (x := k + 5 * (cntL pre : Int) + 1 + 1 + 1) (by omega) (by omega), W_id (x := k + 5 * (cntL pre : Int) + 1 + 1 + 1 + 1) (by omega) (by omega), W_id (x := k + 5 * (cntL pre : Int) + 1 + 1 + 1 + 1 + 1) (by omega) (by omega)]; omega
    have hkid := hk (.mk b p l) List.mem_cons_self ((mkL k pre).1 + 5) (by omega) (by simp only [Tree.kids]; simp only [cntT] at hb'; omega)
    simp only [Tree.kids] at hkid
    rw [← e5] at hkid
    refine Lv.bind (f := fun j => laws_heldSolidS.f j _ _) hkid ?_
    have hnn : ¬ (mkL (W (W (W (W (W ((mkL k pre).1 + 1) + 1) + 1) + 1) + 1)) l).1 < 0 := by
      simp only [cntT] at hb'
      rw [e5, mkL_num l _ (by omega) (by omega)]; omega
    simp only [if_neg hnn, w1]
    rw [hnum] at step
    exact step
theorem held_ok : ∀ (n : Nat) (l : List Tree), SizeOf.sizeOf l ≤ n → ∀ k : Int, 0 ≤ k → k + 5 * (cntL l : Int) ≤ 4611686018427387904 → Ev (fun j => laws_heldSolidS.f j (mkL k l).2 k) (mkL k l).1 := by
  intro n
  induction n with
  | zero =>
    intro l hl
    have : 0 < SizeOf.sizeOf l := by cases l <;> simp <;> omega
    omega
  | succ n ih =>
    intro l hl k h0 hb
    refine Ev.succ (g := fun j => laws_heldSolidS.fs j (laws_heldSolidS.f j) (mkL k l).2 k) ?_ (fun j => laws_heldSolidS.fS j _ _)
    simp only [laws_heldSolidS.fs]
    have h := held_loop h0 l [] hb (fun t ht q hq hc => ih t.kids (by
      have h1 := List.sizeOf_lt_of_mem ht
      cases t with
      | mk b p kids => simp only [Tree.mk.sizeOf_spec] at h1; show SizeOf.sizeOf kids ≤ n; omega) q hq hc)
    simp only [mkL, List.nil_append] at h
    exact Ev.bind h.ev (.now fun _ => rfl)
/-- what a marked solid holds. -/
theorem heldSolid_ev {b : Bool} {p : S4} {l : List Tree} (hb : 1 + 5 * (cntL l : Int) ≤ 4611686018427387904) : Ev (fun j => laws_heldSolid.f j (.mk b p (mkL 1 l).2) 1) (1 + 5 * (cntL l : Int)) := by
  simp only [laws_heldSolid.f]
  have h := held_ok _ l (Nat.le_refl _) 1 (by omega) hb
  rw [mkL_num l 1 (by omega) hb] at h
  refine Ev.bind h ?_
  simp only [decide_eq_true_eq, if_neg (show ¬ 1 + 5 * (cntL l : Int) < 0 by omega)]
  exact .now fun _ => rfl
theorem markSolid_f (j : Nat) {l : List Tree} (hb : 1 + 5 * (cntL l : Int) ≤ 4611686018427387904) : laws_markSolid.f j l 1 = some (1 + 5 * (cntL l : Int), (mkL 1 l).2) := by
  unfold laws_markSolid.f
  rw [← mkL_num l 1 (by omega) hb]
end Go.Proofs.Ytlkcpldohlemcaa.Q
