/- Trees: how large; a copy is the same; compared, marked; how many nodes. -/
import Derived.Test.YtalkkenkeilmpaaP4
import Derived.Test.YtalkkenkeilmpaaA1
namespace Go.Proofs.Ytalkkenkeilmpaa.Q
open Go Go.RowKit Go.Proofs Go.Proofs.Ytalkkenkeilmpaa.Ev Go.Proofs.Ytalkkenkeilmpaa.G
set_option linter.unusedSimpArgs false
set_option linter.unusedVariables false

/-- the lists are no longer than memory is. -/
inductive TW : Tree → Prop
  | mk (b : Bool) (p : S4) (l : List Tree) (hl : l.length ≤ 1099511627776) (h : ∀ t ∈ l, TW t) : TW (.mk b p l)
theorem rd_mem {l : List Tree} {i : Nat} (h : i < l.length) : rd l (i : Int) ∈ l := by
  have e : rd l (i : Int) = l[i] := by simp [rd, List.getD_eq_getElem?_getD, h]
  rw [e]; exact List.getElem_mem h
theorem rd_get {l : List Tree} {i : Nat} (h : i < l.length) : rd l (i : Int) = l[i] := by simp [rd, List.getD_eq_getElem?_getD, h]
theorem wrl {n c : Nat} (h : c < n) (hl : n ≤ 1099511627776) : W ((c : Int) + 1) = ((c + 1 : Nat) : Int) := by rw [W_id (by omega) (by omega)]; omega

theorem eqPlane_self (k : Nat) (p : S4) : laws_eqPlane.f k p p = some true := by simp [laws_eqPlane.f]
theorem eqS_loop {l : List Tree} (hl : l.length ≤ 1099511627776) (h : ∀ t ∈ l, Ev (fun k => laws_eqSolid.f k t t) true) : ∀ (d i : Nat), l.length - i = d → i ≤ l.length →
    Lv (fun k m => laws_eqSolidS.l4 k (laws_eqSolid.f k) (laws_eqSolidS.f k) m l l (i : Int)) (.inr ((), ())) := by
  intro d
  induction d with
  | zero =>
    intro i hd hi
    refine Lv.step (g := fun k m => laws_eqSolidS.s4 k (laws_eqSolid.f k) (laws_eqSolidS.f k) (laws_eqSolidS.l4 k (laws_eqSolid.f k) (laws_eqSolidS.f k) m) l l (i : Int)) ?_ (fun _ _ => rfl)
    simp only [laws_eqSolidS.s4, decide_eq_true_eq, if_neg (show ¬ (i : Int) < (l.length : Int) by omega)]
    exact .now fun _ _ => rfl
  | succ d ih =>
    intro i hd hi
    have hi' : i < l.length := by omega
    refine Lv.step (g := fun k m => laws_eqSolidS.s4 k (laws_eqSolid.f k) (laws_eqSolidS.f k) (laws_eqSolidS.l4 k (laws_eqSolid.f k) (laws_eqSolidS.f k) m) l l (i : Int)) ?_ (fun _ _ => rfl)
    simp only [laws_eqSolidS.s4, decide_eq_true_eq, if_pos (show (i : Int) < (l.length : Int) by omega), if_pos (Int.natCast_nonneg _), wrl hi' hl, T1_eq]
    refine Lv.bind (h _ (rd_mem hi')) ?_
    simp only [Bool.not_true, Bool.false_eq_true, if_false]
    exact ih (i + 1) (by omega) (by omega)
theorem eq_ok {T : Tree} (hT : TW T) : Ev (fun k => laws_eqSolid.f k T T) true := by
  induction hT with
  | mk b p l hl h ih =>
    have S : Ev (fun k => laws_eqSolidS.f k l l) true := by
      refine Ev.succ (g := fun k => laws_eqSolidS.fs k (laws_eqSolid.f k) (laws_eqSolidS.f k) l l) ?_ (fun k => laws_eqSolidS.fS k l l)
      simp only [laws_eqSolidS.fs, ne_iff, ne_eq, not_true_eq_false, if_false]
      exact (eqS_loop hl ih l.length 0 (by omega) (by omega)).ev.bind (.now fun _ => rfl)
    refine Ev.succ (g := fun k => laws_eqSolid.fs k (laws_eqSolid.f k) (laws_eqSolidS.f k) (.mk b p l) (.mk b p l)) ?_ (fun k => laws_eqSolid.fS k _ _)
    simp only [laws_eqSolid.fs, eqPlane_self, Option.bind_some, beq_self_eq_true, Bool.not_true, Bool.false_eq_true, if_false]
    refine Ev.bind (f := fun k => laws_eqSolidS.f k l l) S (.now fun _ => by simp)


mutual
def cntT : Tree → Nat
  | .mk _ _ l => 1 + cntL l
def cntL : List Tree → Nat
  | [] => 0
  | t :: l => cntT t + cntL l
end
theorem cntL_len : ∀ l : List Tree, l.length ≤ cntL l
  | [] => Nat.zero_le _
  | t :: l => by
    have := cntL_len l
    cases t
    simp only [List.length_cons, cntL, cntT]; omega
mutual
theorem mkT_num : ∀ (t : Tree) (k : Int), 0 ≤ k → k + 5 * (cntT t : Int) ≤ 4611686018427387904 → (mkT k t).1 = k + 5 * (cntT t : Int)
  | .mk b p l, k, h0, h => by
    simp only [cntT] at h ⊢
    have e : W (W (W (W (W (k + 1) + 1) + 1) + 1) + 1) = k + 5 := by
      rw [W_id (x := k + 1) (by omega) (by omega), W_id (x := k + 1 + 1) (by omega) (by omega), W_id (x := k + 1 + 1 + 1) (by omega) (by omega), W_id (x := k + 1 + 1 + 1 + 1) (by omega) (by omega), W_id (x := k + 1 + 1 + 1 + 1 + 1) (by omega) (by omega)]; omega
    simp only [mkT, e]
    rw [mkL_num l (k + 5) (by omega) (by omega)]; omega
theorem mkL_num : ∀ (l : List Tree) (k : Int), 0 ≤ k → k + 5 * (cntL l : Int) ≤ 4611686018427387904 → (mkL k l).1 = k + 5 * (cntL l : Int)
  | [], k, h0, h => by simp [mkL, cntL]
  | t :: l, k, h0, h => by
    simp only [cntL] at h ⊢
    have e := mkT_num t k h0 (by omega)
    simp only [mkL]
    rw [e, mkL_num l _ (by omega) (by omega)]; omega
end
theorem markSolid_f (j : Nat) {l : List Tree} (hb : 1 + 5 * (cntL l : Int) ≤ 4611686018427387904) : laws_markSolid.f j l 1 = some (1 + 5 * (cntL l : Int), (mkL 1 l).2) := by
  unfold laws_markSolid.f
  rw [← mkL_num l 1 (by omega) hb]

/-! ### a copy -/
theorem tok_TW : ∀ {T : Tree}, TW T → tokT T = true := fun {T} hT => by
  induction hT with
  | mk b p l hl h ih =>
    simp only [tokT, Bool.and_eq_true]
    refine ⟨lt47_ok (by omega), ?_⟩
    have : ∀ m : List Tree, (∀ t ∈ m, tokT t = true) → tokL m = true := fun m => by
      induction m with
      | nil => intro _; rfl
      | cons t m ihm => intro hm; simp only [tokL, Bool.and_eq_true]; exact ⟨hm t (by simp), ihm fun t ht => hm t (by simp [ht])⟩
    exact this l ih
theorem to_ok {T : Tree} (hT : TW T) : Ev (fun k => laws_toSolid.f k T) T := .now fun k => by unfold laws_toSolid.f; rw [if_pos (tok_TW hT)]

/-! ### how large: below 0, or not above -/
def kl : List Tree → Nat
  | [] => 0
  | t :: l => cntL t.kids + kl l
theorem cntL_kl : ∀ l : List Tree, cntL l = l.length + kl l
  | [] => rfl
  | .mk b p m :: l => by simp only [cntL, cntT, kl, Tree.kids, List.length_cons, cntL_kl l]; omega
def szfin : laws_szSolidS.B5 → Int
  | .inl r => r.1.1
  | .inr x => x.1.1
theorem szS_loop {l : List Tree} (hl : l.length ≤ 1099511627776) (h : ∀ t ∈ l, ∀ n : Int, n ≤ 1048576 → 0 ≤ n → ∃ v : Int, v ≤ 1048576 ∧ Ev (fun k => laws_szSolid.f k t n) v ∧ (0 ≤ v → TW t ∧ (cntL t.kids : Int) + v ≤ n)) : ∀ (d i : Nat), l.length - i = d → i ≤ l.length → ∀ n : Int, n ≤ 1048576 → 0 ≤ n →
    ∃ r, szfin r ≤ 1048576 ∧ Lv (fun k m => laws_szSolidS.l5 k (laws_szSolid.f k) (laws_szSolidS.f k) m l n (i : Int)) r ∧ (0 ≤ szfin r → (∀ j, i ≤ j → (hj : j < l.length) → TW l[j]) ∧ (kl (l.drop i) : Int) + szfin r ≤ n) := by
  intro d
  induction d with
  | zero =>
    intro i hd hi n hn h0
    refine ⟨.inr ((n, ()), ()), hn, ?_, fun _ => ⟨fun j h1 h2 => by omega, by rw [List.drop_eq_nil_of_le (by omega)]; simp [kl, szfin]⟩⟩
    refine Lv.step (g := fun k m => laws_szSolidS.s5 k (laws_szSolid.f k) (laws_szSolidS.f k) (laws_szSolidS.l5 k (laws_szSolid.f k) (laws_szSolidS.f k) m) l n (i : Int)) ?_ (fun _ _ => rfl)
    simp only [laws_szSolidS.s5, decide_eq_true_eq, if_neg (show ¬ (i : Int) < (l.length : Int) by omega)]
    exact .now fun _ _ => rfl
  | succ d ih =>
    intro i hd hi n hn h0
    have hi' : i < l.length := by omega
    obtain ⟨v, hv, hE, hw⟩ := h _ (rd_mem hi') n hn h0
    have fin : ∃ r, szfin r ≤ 1048576 ∧ Lv (fun k m => if v < 0 then some (.inl ((-1, ()), ())) else laws_szSolidS.l5 k (laws_szSolid.f k) (laws_szSolidS.f k) m l v ((i + 1 : Nat) : Int)) r ∧ (0 ≤ szfin r → (∀ j, i ≤ j → (hj : j < l.length) → TW l[j]) ∧ (kl (l.drop i) : Int) + szfin r ≤ n) := by
      by_cases c : v < 0
      · exact ⟨.inl ((-1, ()), ()), by decide, by simp only [if_pos c]; exact .now fun _ _ => rfl, fun h => absurd h (by decide)⟩
      · obtain ⟨r, h1, h2, h3⟩ := ih (i + 1) (by omega) (by omega) v hv (by omega)
        refine ⟨r, h1, by simp only [if_neg c]; exact h2, fun h => ⟨fun j h4 h5 => ?_, ?_⟩⟩
        · by_cases e : j = i
          · subst e; have := (hw (by omega)).1; rw [rd_get h5] at this; exact this
          · exact (h3 h).1 j (by omega) h5
        · have e := List.getElem_cons_drop hi'
          rw [← e]
          have h4 := (hw (by omega)).2
          rw [rd_get hi'] at h4
          have h5 := (h3 h).2
          simp only [kl]
          omega
    obtain ⟨r, h1, h2, h3⟩ := fin
    refine ⟨r, h1, ?_, h3⟩
    refine Lv.step (g := fun k m => laws_szSolidS.s5 k (laws_szSolid.f k) (laws_szSolidS.f k) (laws_szSolidS.l5 k (laws_szSolid.f k) (laws_szSolidS.f k) m) l n (i : Int)) ?_ (fun _ _ => rfl)
    simp only [laws_szSolidS.s5, decide_eq_true_eq, if_pos (show (i : Int) < (l.length : Int) by omega), if_pos (Int.natCast_nonneg _), wrl hi' hl, T1_eq]
    exact Lv.bind hE h2
theorem sz_ok {T : Tree} (hT : TM T) : ∀ n : Int, n ≤ 1048576 → 0 ≤ n → ∃ v : Int, v ≤ 1048576 ∧ Ev (fun k => laws_szSolid.f k T n) v ∧ (0 ≤ v → TW T ∧ (cntL T.kids : Int) + v ≤ n) := by
  induction hT with
  | mk b p l hl h ih =>
    intro n hn h0
    have S : ∃ v : Int, v ≤ 1048576 ∧ Ev (fun k => laws_szSolidS.f k l n) v ∧ (0 ≤ v → TW (.mk b p l) ∧ (cntL l : Int) + v ≤ n) := by
      have e : W (n - (l.length : Int)) = n - l.length := W_id (by omega) (by omega)
      by_cases c : n - (l.length : Int) < 0
      · refine ⟨-1, by omega, ?_, fun h => absurd h (by omega)⟩
        refine Ev.succ (g := fun k => laws_szSolidS.fs k (laws_szSolid.f k) (laws_szSolidS.f k) l n) ?_ (fun k => laws_szSolidS.fS k l n)
        simp only [laws_szSolidS.fs, decide_eq_true_eq, e, if_pos c]
        exact .now fun _ => rfl
      · obtain ⟨r, h1, h2, h3⟩ := szS_loop (by omega) ih l.length 0 (by omega) (by omega) (n - l.length) (by omega) (by omega)
        refine ⟨szfin r, h1, ?_, fun h => ⟨.mk b p l (by omega) fun t ht => by obtain ⟨j, hj, rfl⟩ := List.getElem_of_mem ht; exact (h3 h).1 j (Nat.zero_le _) hj, ?_⟩⟩
        · refine Ev.succ (g := fun k => laws_szSolidS.fs k (laws_szSolid.f k) (laws_szSolidS.f k) l n) ?_ (fun k => laws_szSolidS.fS k l n)
          simp only [laws_szSolidS.fs, decide_eq_true_eq, e, if_neg c]
          refine h2.ev.bind (.now fun _ => ?_)
          cases r <;> rfl
        · have := (h3 h).2
          rw [List.drop_zero] at this
          rw [cntL_kl l]; omega
    obtain ⟨v, hv, hE, hw⟩ := S
    refine ⟨if v < 0 then -1 else v, by split <;> omega, ?_, fun h => ?_⟩
    · refine Ev.succ (g := fun k => laws_szSolid.fs k (laws_szSolid.f k) (laws_szSolidS.f k) (.mk b p l) n) ?_ (fun k => laws_szSolid.fS k _ n)
      simp only [laws_szSolid.fs, decide_eq_true_eq]
      refine Ev.bind (f := fun k => laws_szSolidS.f k l n) hE (.now fun _ => ?_)
      by_cases c : v < 0 <;> simp [c]
    · by_cases c : v < 0
      · rw [if_pos c] at h; omega
      · rw [if_neg c] at h ⊢; exact hw h
theorem law_of {T : Tree} (hT : TM T) {R : Nat → Tree → Option Bool} (h : TW T → cntL T.kids ≤ 1048576 → Ev (fun k => R k T) true) :
    Ev (fun k => (laws_szSolid.f k T 1048576).bind fun t1 => if t1 < 0 then some true else R k T) true := by
  obtain ⟨v, _, e, hw⟩ := sz_ok hT 1048576 (by omega) (by omega)
  refine e.bind ?_
  by_cases c : v < 0
  · simp only [if_pos c]; exact .now fun _ => rfl
  · simp only [if_neg c]
    obtain ⟨h1, h2⟩ := hw (by omega)
    exact h h1 (by omega)

/-! ### how many nodes -/
mutual
def nn : Tree → Nat
  | .mk _ _ l => if l.length = 0 then 0 else 1 + nnL l
def nnL : List Tree → Nat
  | [] => 0
  | t :: l => nn t + nnL l
end
theorem count_loop {b : Bool} {p : S4} {l : List Tree} (hl : l.length ≤ 1099511627776) {c : Int} (hc : 1 ≤ c ∧ c ≤ 1048576) (h : ∀ t ∈ l, ∀ c : Int, c ≤ 1048576 → 0 ≤ c → Ev (fun k => spec_l8Count.f k t c) (min (nn t : Int) c)) : ∀ (d i : Nat), l.length - i = d → i ≤ l.length → ∀ n : Int, 1 ≤ n → n ≤ c →
    Lv (fun k m => spec_l8Count.l5 k (spec_l8Count.f k) m c n (i : Int) (.mk b p l)) ((min (n + (nnL (l.drop i) : Int)) c, ()), ()) := by
  intro d
  induction d with
  | zero =>
    intro i hd hi n h1 h2
    refine Lv.step (g := fun k m => spec_l8Count.s5 k (spec_l8Count.f k) (spec_l8Count.l5 k (spec_l8Count.f k) m) c n (i : Int) (.mk b p l)) ?_ (fun _ _ => rfl)
    simp only [spec_l8Count.s5, decide_eq_true_eq, if_neg (show ¬ (i : Int) < ((Tree.mk b p l).kids.length : Int) by show ¬ (i : Int) < (l.length : Int); omega)]
    rw [List.drop_eq_nil_of_le (by omega)]
    simp only [nnL]
    rw [show min (n + ((0 : Nat) : Int)) c = n by omega]
    exact .now fun _ _ => rfl
  | succ d ih =>
    intro i hd hi n h1 h2
    have hi' : i < l.length := by omega
    refine Lv.step (g := fun k m => spec_l8Count.s5 k (spec_l8Count.f k) (spec_l8Count.l5 k (spec_l8Count.f k) m) c n (i : Int) (.mk b p l)) ?_ (fun _ _ => rfl)
    simp only [spec_l8Count.s5, decide_eq_true_eq, if_pos (show (i : Int) < ((Tree.mk b p l).kids.length : Int) by show (i : Int) < (l.length : Int); omega), if_pos (Int.natCast_nonneg _), wrl hi' hl, T1_eq]
    rw [W_id (x := c - n) (by omega) (by omega)]
    refine Lv.bind (h (rd l (i : Int)) (rd_mem hi') (c - n) (by omega) (by omega)) ?_
    rw [W_id (x := n + min (nn (rd l (i : Int)) : Int) (c - n)) (by omega) (by omega)]
    have e : l.drop i = rd l (i : Int) :: l.drop (i + 1) := by rw [rd_get hi']; exact (List.getElem_cons_drop hi').symm
    have k1 := ih (i + 1) (by omega) (by omega) (n + min (nn (rd l (i : Int)) : Int) (c - n)) (by omega) (by omega)
    rw [e]
    simp only [nnL]
    rw [show min (n + ((nn (rd l (i : Int)) + nnL (l.drop (i + 1)) : Nat) : Int)) c = min (n + min (nn (rd l (i : Int)) : Int) (c - n) + (nnL (l.drop (i + 1)) : Int)) c by omega]
    exact k1
theorem leaf_f (k : Nat) (T : Tree) : spec_l8Leaf.f k T = some ((T.kids.length : Int) == 0) := rfl
theorem isLeaf_f (k : Nat) (T : Tree) : impl_Solid_isLeaf.f k T = some ((T.kids.length : Int) == 0) := rfl
theorem count_ok {T : Tree} (hT : TW T) : ∀ c : Int, c ≤ 1048576 → 0 ≤ c → Ev (fun k => spec_l8Count.f k T c) (min (nn T : Int) c) := by
  induction hT with
  | mk b p l hl h ih =>
    intro c hc h0
    refine Ev.succ (g := fun k => spec_l8Count.fs k (spec_l8Count.f k) (.mk b p l) c) ?_ (fun k => spec_l8Count.fS k _ c)
    simp only [spec_l8Count.fs, leaf_f, T1_eq, Option.bind_some, eq_iff, decide_eq_true_eq, nn]
    by_cases c0 : l.length = 0
    · simp only [Tree.kids, c0, Int.natCast_eq_zero, if_true]
      exact .now fun _ => by congr 1; omega
    · simp only [Tree.kids, c0, Int.natCast_eq_zero, if_false]
      by_cases c1 : c ≤ 0
      · simp only [if_pos c1]; exact .now fun _ => by congr 1; omega
      · simp only [if_neg c1]
        have := (count_loop (b := b) (p := p) hl (c := c) (by omega) ih l.length 0 (by omega) (by omega) 1 (by omega) (by omega)).ev.one (g := fun x => x.1.1)
        rw [List.drop_zero] at this
        exact this
end Go.Proofs.Ytalkkenkeilmpaa.Q
