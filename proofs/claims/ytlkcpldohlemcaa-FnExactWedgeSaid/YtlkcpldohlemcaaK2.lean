/- FnExactHalfOf. -/
import Derived.Test.YtlkcpldohlemcaaK1
namespace Go.Proofs.Ytlkcpldohlemcaa.Q
open Go Go.RowKit Go.Proofs Go.Proofs.Ytlkcpldohlemcaa.Ev Go.Proofs.Ytlkcpldohlemcaa.G
set_option linter.unusedSimpArgs false
set_option linter.unusedVariables false

def lfT (b : Bool) : Tree := .mk b ⟨0, 0, 0, 0⟩ []
def hfT (p : S4) : Tree × Bool × Unit := if okp p = true then (.mk false p [lfT true, lfT false], true, ()) else (lfT false, false, ())
theorem lf_tw (b : Bool) : TW (lfT b) := .mk _ _ _ (by simp) (fun t h => by cases h)
theorem sHalfOf_ev (p : S4) : Ev (fun k => spec_HalfOf.f k p) (hfT p) := by
  simp only [spec_HalfOf.f, spec_Leaf.f, spec_l8Node.f, Option.bind_some, T1_eq]
  refine (spec_PlaneOk_ev p).bind ?_
  unfold hfT
  cases okp p <;> exact .now fun _ => rfl
theorem iHalfOf_ev (p : S4) : Ev (fun k => impl_HalfOf.f k p) (hfT p) := by
  simp only [impl_HalfOf.f, impl_Leaf.f, Option.bind_some, T1_eq]
  refine (impl_PlaneOk_ev p).bind ?_
  unfold hfT
  cases okp p <;> exact .now fun _ => rfl
theorem hf_tw (p : S4) : TW (hfT p).1 ∧ cntL (hfT p).1.kids ≤ 2 := by
  unfold hfT
  split
  · refine ⟨.mk _ _ _ (by simp) (fun t h => ?_), by simp [Tree.kids, cntL, cntT, lfT]⟩
    simp at h
    rcases h with rfl | rfl <;> exact lf_tw _
  · exact ⟨lf_tw _, by simp [Tree.kids, cntL, lfT]⟩
theorem FnExactHalfOf_pure (p : S4) : ∃ k, laws_FnExactHalfOf.f k p = some true := by
  have key : Ev (fun k => laws_FnExactHalfOf.f k p) true := by
    obtain ⟨hw, hc⟩ := hf_tw p
    have s := sHalfOf_ev p
    have i := iHalfOf_ev p
    generalize hfT p = r at hw hc s i
    obtain ⟨⟨b, q, l⟩, u, ⟨⟩⟩ := r
    simp only [Tree.kids] at hc
    have hb : 1 + 5 * (cntL l : Int) ≤ 4611686018427387904 := by omega
    have eq := eq_ok hw
    have hd := heldSolid_ev (b := b) (p := q) hb
    simp only [laws_FnExactHalfOf.f, laws_toPlane.f, Option.bind_some, T1_eq]
    refine s.bind (i.bind (eq.bind ?_))
    simp only [Bool.not_true, Bool.false_eq_true, if_false, beq_self_eq_true, Tree.kids, Tree.inn, Tree.p, markSolid_f _ hb, Option.bind_some]
    refine hd.bind ?_
    simp only [decide_eq_true_eq, if_neg (show ¬ 1 + 5 * (cntL l : Int) < 0 by omega), bne_self_eq_false, Bool.false_eq_true, if_false]
    refine i.bind (eq.bind ?_)
    simp only [Bool.not_true, Bool.false_eq_true, if_false, beq_self_eq_true]
    refine hd.bind (.now fun _ => ?_)
    simp only [decide_eq_true_eq, if_neg (show ¬ 1 + 5 * (cntL l : Int) < 0 by omega), bne_self_eq_false, Bool.false_eq_true, if_false]
  obtain ⟨K, h⟩ := key
  exact ⟨K, h K (Nat.le_refl _)⟩
end Go.Proofs.Ytlkcpldohlemcaa.Q
