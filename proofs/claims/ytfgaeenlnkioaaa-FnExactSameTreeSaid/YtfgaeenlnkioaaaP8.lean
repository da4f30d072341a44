/- SameTree by both programs; the law. -/
import Derived.Test.YtfgaeenlnkioaaaP5
namespace Go.Proofs.Ytfgaeenlnkioaaa.Q
open Go Go.RowKit Go.Proofs Go.Proofs.Ytfgaeenlnkioaaa.Ev Go.Proofs.Ytfgaeenlnkioaaa.G
set_option linter.unusedSimpArgs false
set_option linter.unusedVariables false

theorem same_loops {b b' : Bool} {p p' : S4} {l l' : List Tree} (hl : l.length ≤ 1099511627776) (he : l.length = l'.length) (h' : ∀ t ∈ l', TW t) (h : ∀ t ∈ l, ∀ u, TW u → ∃ v : Bool, Ev (fun k => spec_SameTree.f k t u) v ∧ Ev (fun k => impl_SameTree.f k t u) v) : ∀ (d i : Nat), l.length - i = d → i ≤ l.length →
    ∃ c : Bool, Lv (fun k n => spec_SameTree.l4 k (spec_SameTree.f k) n (i : Int) (.mk b p l) (.mk b' p' l')) (if c = true then .inr ((), ()) else .inl ((false, ()), ())) ∧
      Lv (fun k n => slices_EqualFunc.l4 k (impl_SameTree.f k) (slices_EqualFunc.f k) n l' () l (l.length : Int) (i : Int)) (if c = true then .inr ((), ()) else .inl ((false, ()), ())) := by
  intro d
  induction d with
  | zero =>
    intro i hd hi
    refine ⟨true, ?_, ?_⟩
    · refine Lv.step (g := fun k n => spec_SameTree.s4 k (spec_SameTree.f k) (spec_SameTree.l4 k (spec_SameTree.f k) n) (i : Int) (.mk b p l) (.mk b' p' l')) ?_ (fun _ _ => rfl)
      simp only [spec_SameTree.s4, decide_eq_true_eq, if_neg (show ¬ (i : Int) < ((Tree.mk b p l).kids.length : Int) by show ¬ (i : Int) < (l.length : Int); omega)]
      exact .now fun _ _ => rfl
    · refine Lv.step (g := fun k n => slices_EqualFunc.s4 k (impl_SameTree.f k) (slices_EqualFunc.f k) (slices_EqualFunc.l4 k (impl_SameTree.f k) (slices_EqualFunc.f k) n) l' () l (l.length : Int) (i : Int)) ?_ (fun _ _ => rfl)
      simp only [slices_EqualFunc.s4, decide_eq_true_eq, if_neg (show ¬ (i : Int) < (l.length : Int) by omega)]
      exact .now fun _ _ => rfl
  | succ d ih =>
    intro i hd hi
    have hi' : i < l.length := by omega
    obtain ⟨v, e1, e2⟩ := h _ (rd_mem hi') (rd l' (i : Int)) (h' _ (rd_mem (by omega)))
    obtain ⟨c, f1, f2⟩ := ih (i + 1) (by omega) (by omega)
    refine ⟨v && c, ?_, ?_⟩
    · refine Lv.step (g := fun k n => spec_SameTree.s4 k (spec_SameTree.f k) (spec_SameTree.l4 k (spec_SameTree.f k) n) (i : Int) (.mk b p l) (.mk b' p' l')) ?_ (fun _ _ => rfl)
      simp only [spec_SameTree.s4, decide_eq_true_eq, if_pos (show (i : Int) < ((Tree.mk b p l).kids.length : Int) by show (i : Int) < (l.length : Int); omega), if_pos (show (i : Int) < ((Tree.mk b' p' l').kids.length : Int) by show (i : Int) < (l'.length : Int); omega), if_pos (Int.natCast_nonneg _), wrl hi' hl, T1_eq]
      refine Lv.bind e1 ?_
      cases v with
      | false => exact .now fun _ _ => rfl
      | true => simp only [Bool.not_true, Bool.false_eq_true, if_false, Bool.true_and]; exact f1
    · refine Lv.step (g := fun k n => slices_EqualFunc.s4 k (impl_SameTree.f k) (slices_EqualFunc.f k) (slices_EqualFunc.l4 k (impl_SameTree.f k) (slices_EqualFunc.f k) n) l' () l (l.length : Int) (i : Int)) ?_ (fun _ _ => rfl)
      simp only [slices_EqualFunc.s4, decide_eq_true_eq, if_pos (show (i : Int) < (l.length : Int) by omega), if_pos (show (i : Int) < (l'.length : Int) by omega), if_pos (Int.natCast_nonneg _), wrl hi' hl, T1_eq]
      refine Lv.bind e2 ?_
      cases v with
      | false => exact .now fun _ _ => rfl
      | true => simp only [Bool.not_true, Bool.false_eq_true, if_false, Bool.true_and]; exact f2
theorem same_ok {T : Tree} (hT : TW T) : ∀ U, TW U → ∃ v : Bool, Ev (fun k => spec_SameTree.f k T U) v ∧ Ev (fun k => impl_SameTree.f k T U) v := by
  induction hT with
  | mk b p l hl h ih =>
    intro U hU
    obtain ⟨b', p', l', hl', h'⟩ := hU
    have go : ∀ v : Bool, Ev (fun k => spec_SameTree.fs k (spec_SameTree.f k) (.mk b p l) (.mk b' p' l')) v → Ev (fun k => impl_SameTree.fs k (impl_SameTree.f k) (slices_EqualFunc.f k) (.mk b p l) (.mk b' p' l')) v → ∃ v : Bool, Ev (fun k => spec_SameTree.f k (.mk b p l) (.mk b' p' l')) v ∧ Ev (fun k => impl_SameTree.f k (.mk b p l) (.mk b' p' l')) v := fun v h1 h2 =>
      ⟨v, Ev.succ h1 (fun k => spec_SameTree.fS k _ _), Ev.succ h2 (fun k => impl_SameTree.fS k _ _)⟩
    simp only [spec_SameTree.fs, impl_SameTree.fs, Tree.inn, Tree.p, Tree.kids, ne_iff, T1_eq] at go
    cases hb : (b == b') with
    | false => simp only [hb, Bool.not_false, if_true, Bool.false_eq_true, if_false] at go; exact go false (.now fun _ => rfl) (.now fun _ => rfl)
    | true =>
      cases hp : ((p.a == p'.a) && ((p.b == p'.b) && ((p.c == p'.c) && (p.d == p'.d)))) with
      | false => simp only [hb, hp, Bool.not_false, Bool.not_true, if_true, Bool.false_eq_true, if_false] at go; exact go false (.now fun _ => rfl) (.now fun _ => rfl)
      | true =>
        simp only [hb, hp, Bool.not_true, if_true, Bool.false_eq_true, if_false] at go
        by_cases hn : l.length = l'.length
        · obtain ⟨c, f1, f2⟩ := same_loops (b := b) (b' := b') (p := p) (p' := p') hl hn h' ih l.length 0 (by omega) (by omega)
          have e : Ev (fun k => slices_EqualFunc.f k l l' ()) c := by
            refine Ev.succ (g := fun k => slices_EqualFunc.fs k (impl_SameTree.f k) (slices_EqualFunc.f k) l l' ()) ?_ (fun k => slices_EqualFunc.fS k _ _ _)
            simp only [slices_EqualFunc.fs, ne_iff]
            simp only [show ¬ ((l.length : Int) ≠ (l'.length : Int)) by omega, if_false]
            refine f2.ev.bind ?_
            cases c <;> exact .now fun _ => rfl
          simp only [show ¬ ((l.length : Int) ≠ (l'.length : Int)) by omega, if_false] at go
          refine go c (f1.ev.bind ?_) e.one
          cases c <;> exact .now fun _ => rfl
        · simp only [ne_eq, show ¬ ((l.length : Int) = (l'.length : Int)) by omega, not_false_eq_true, if_true] at go
          refine go false (.now fun _ => rfl) (Ev.one (f := fun k => slices_EqualFunc.f k l l' ()) (g := fun t => t) ?_)
          refine Ev.succ (g := fun k => slices_EqualFunc.fs k (impl_SameTree.f k) (slices_EqualFunc.f k) l l' ()) ?_ (fun k => slices_EqualFunc.fS k _ _ _)
          simp only [slices_EqualFunc.fs, ne_iff]
          simp only [ne_eq, show ¬ ((l.length : Int) = (l'.length : Int)) by omega, not_false_eq_true, if_true]
          exact .now fun _ => rfl
theorem FnExactSameTree_pure {T U : Tree} (hM : TM T) (hM2 : TM U) : ∃ k, laws_FnExactSameTree.f k T U = some true := by
  have key : Ev (fun k => laws_FnExactSameTree.f k T U) true := by
    simp only [laws_FnExactSameTree.f, T1_eq, decide_eq_true_eq]
    obtain ⟨v, h1, e, hw⟩ := sz_ok hM 1048576 (by omega) (by omega)
    refine e.bind ?_
    by_cases c : v < 0
    · simp only [if_pos c]; exact .now fun _ => rfl
    simp only [if_neg c]
    obtain ⟨v2, h2, e2, hw2⟩ := sz_ok hM2 v h1 (by omega)
    refine e2.bind ?_
    by_cases c2 : v2 < 0
    · simp only [if_pos c2]; exact .now fun _ => rfl
    simp only [if_neg c2]
    have hT := hw (by omega)
    have hU := hw2 (by omega)
    obtain ⟨w, s1, s2⟩ := same_ok hT U hU
    refine (to_ok hT).bind ((to_ok hU).bind (s1.bind ((to_ok hT).bind ((to_ok hU).bind (s2.bind ?_)))))
    simp only [beq_self_eq_true, Bool.not_true, Bool.false_eq_true, if_false]
    refine (to_ok hT).bind ((eq_ok hT).bind ?_)
    simp only [Bool.not_true, Bool.false_eq_true, if_false]
    exact (to_ok hU).bind ((eq_ok hU).bind (.now fun _ => rfl))
  obtain ⟨K, h⟩ := key
  exact ⟨K, h K (Nat.le_refl _)⟩
end Go.Proofs.Ytfgaeenlnkioaaa.Q
