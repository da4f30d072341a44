/- Brick and Wedge: six planes, one more, and the convex solid of them. -/
import Derived.Test.YtlkcpldohlemcaaK3
namespace Go.Proofs.Ytlkcpldohlemcaa.Q
open Go Go.RowKit Go.Proofs Go.Proofs.Ytlkcpldohlemcaa.Ev Go.Proofs.Ytlkcpldohlemcaa.G
set_option linter.unusedSimpArgs false
set_option linter.unusedVariables false
def ptk (p : S3) : Bool := if -1000000 ≤ p.x ∧ p.x ≤ 1000000 then (if -1000000 ≤ p.y ∧ p.y ≤ 1000000 then decide (-1000000 ≤ p.z ∧ p.z ≤ 1000000) else false) else false
theorem iPtOk_f (k : Nat) (p : S3) : impl_PtOk.f k p = some (ptk p) := by
  simp only [impl_PtOk.f, inRange_f, Option.bind_some, decide_eq_true_eq, ptk]
  split <;> first | rfl | (split <;> rfl)
theorem sPtOk_f (k : Nat) (p : S3) : spec_PtOk.f k p = some (ptk p) := by
  simp only [spec_PtOk.f, l1In_f, Option.bind_some, decide_eq_true_eq, ptk]
  split <;> first | rfl | (split <;> rfl)
def bk6 (a b : S3) : List S4 := [(⟨1, 0, 0, (W (0 - a.x))⟩ : S4), (⟨(-1), 0, 0, b.x⟩ : S4), (⟨0, 1, 0, (W (0 - a.y))⟩ : S4), (⟨0, (-1), 0, b.y⟩ : S4), (⟨0, 0, 1, (W (0 - a.z))⟩ : S4), (⟨0, 0, (-1), b.z⟩ : S4)]
theorem bk6_len (a b : S3) : (bk6 a b).length = 6 := rfl
def bkV (a b : S3) : List S4 × Int × Unit := if ptk a = true then (if ptk b = true then (if (bk6 a b).all okp = true then (bk6 a b, 0, ()) else ([], 3, ())) else ([], 1, ())) else ([], 1, ())
theorem bkV_len (a b : S3) : (bkV a b).1.length ≤ 6 := by
  unfold bkV; split <;> (try split) <;> (try split) <;> simp [bk6_len]
theorem iBk_ev (a b : S3) : Ev (fun k => impl_brickPlanes.f k a b) (bkV a b) := by
  simp only [impl_brickPlanes.f, iPtOk_f, Option.bind_some, bkV]
  cases ptk a with
  | false => exact .now fun _ => rfl
  | true =>
    cases ptk b with
    | false => exact .now fun _ => rfl
    | true =>
      simp only [Bool.not_true, Bool.false_eq_true, if_false, if_true]
      refine Ev.bind (planesOk_ev (L := bk6 a b) (by rw [bk6_len]; omega)) ?_
      cases (bk6 a b).all okp <;> exact .now fun _ => rfl
theorem sBk_ev (a b : S3) : Ev (fun k => spec_l9Brick.f k a b) (bkV a b) := by
  simp only [spec_l9Brick.f, sPtOk_f, Option.bind_some, bkV]
  cases ptk a with
  | false => exact .now fun _ => rfl
  | true =>
    cases ptk b with
    | false => exact .now fun _ => rfl
    | true =>
      simp only [Bool.not_true, Bool.false_eq_true, if_false, if_true]
      refine Ev.bind (l6Right_ev (L := bk6 a b) (by rw [bk6_len]; omega)) ?_
      rw [bk6_len, show decide (6 ≤ 24) = true from rfl, Bool.and_true]
      cases (bk6 a b).all okp <;> exact .now fun _ => rfl
def brV (a b : S3) : Tree × Int × Unit := if ((bkV a b).2.1 != 0) = true then (lfT false, (bkV a b).2.1, ()) else cvV (bkV a b).1
def wdV (a b : S3) (p : S4) : Tree × Int × Unit := if ((bkV a b).2.1 != 0) = true then (lfT false, (bkV a b).2.1, ()) else cvV ((bkV a b).1 ++ [p])
theorem iBrick_ev (a b : S3) : Ev (fun k => impl_Brick.f k a b) (brV a b) := by
  simp only [impl_Brick.f, brV, T1_eq]
  refine Ev.bind (iBk_ev a b) ?_
  split
  · exact .now fun _ => rfl
  · exact Ev.bind (iConvex_ev (Nat.le_trans (bkV_len a b) (by omega))) (.now fun _ => rfl)
theorem sBrick_ev (a b : S3) : Ev (fun k => spec_Brick.f k a b) (brV a b) := by
  simp only [spec_Brick.f, brV, T1_eq]
  refine Ev.bind (sBk_ev a b) ?_
  split
  · exact .now fun _ => rfl
  · exact Ev.bind (sConvex_ev (Nat.le_trans (bkV_len a b) (by omega))) (.now fun _ => rfl)
theorem iWedge_ev (a b : S3) (p : S4) : Ev (fun k => impl_Wedge.f k a b p) (wdV a b p) := by
  have hb := bkV_len a b
  simp only [impl_Wedge.f, wdV, T1_eq]
  refine Ev.bind (iBk_ev a b) ?_
  split
  · exact .now fun _ => rfl
  · simp only [with_f _ (show (bkV a b).1.length ≤ 2097152 by omega), Option.bind_some]
    exact Ev.bind (iConvex_ev (by rw [List.length_append]; simp; omega)) (.now fun _ => rfl)
theorem sWedge_ev (a b : S3) (p : S4) : Ev (fun k => spec_Wedge.f k a b p) (wdV a b p) := by
  have hb := bkV_len a b
  simp only [spec_Wedge.f, wdV, T1_eq]
  refine Ev.bind (sBk_ev a b) ?_
  split
  · exact .now fun _ => rfl
  · simp only [l8Path_f _ (show (bkV a b).1.length ≤ 2097152 by omega), Option.bind_some]
    exact Ev.bind (sConvex_ev (by rw [List.length_append]; simp; omega)) (.now fun _ => rfl)
theorem lfT_tw (b : Bool) : TW (lfT b) ∧ cntL (lfT b).kids ≤ 5000000 := ⟨lf_tw b, by simp [lfT, Tree.kids, cntL]⟩
theorem br_tw (a b : S3) : TW (brV a b).1 ∧ cntL (brV a b).1.kids ≤ 5000000 := by
  unfold brV; split
  · exact lfT_tw _
  · exact cv_tw (Nat.le_trans (bkV_len a b) (by omega))
theorem wd_tw (a b : S3) (p : S4) : TW (wdV a b p).1 ∧ cntL (wdV a b p).1.kids ≤ 5000000 := by
  have hb := bkV_len a b
  unfold wdV; split
  · exact lfT_tw _
  · exact cv_tw (by rw [List.length_append]; simp; omega)
theorem FnExactBrick_pure (a b : S3) : ∃ k, laws_FnExactBrick.f k a b = some true := by
  have key : Ev (fun k => laws_FnExactBrick.f k a b) true := by
    simp only [laws_FnExactBrick.f, laws_toPt.f, Option.bind_some]
    obtain ⟨hw, hc⟩ := br_tw a b
    have s1 := sBrick_ev a b
    have s2 := iBrick_ev a b
    generalize brV a b = r at hw hc s1 s2
    obtain ⟨⟨b, q, l⟩, u, ⟨⟩⟩ := r
    simp only [Tree.kids] at hc
    have hb : 1 + 5 * (cntL l : Int) ≤ 4611686018427387904 := by omega
    have eq := eq_ok hw
    have hd := heldSolid_ev (b := b) (p := q) hb
    simp only [T1_eq]
    refine s1.bind (s2.bind (eq.bind ?_))
    simp only [Bool.not_true, Bool.false_eq_true, if_false, bne_self_eq_false, Tree.kids, Tree.inn, Tree.p, markSolid_f _ hb, Option.bind_some]
    refine hd.bind ?_
    simp only [if_neg (show ¬ 1 + 5 * (cntL l : Int) < 0 by omega), decide_eq_true_eq, bne_self_eq_false, Bool.false_eq_true, if_false]
    refine s2.bind (eq.bind ?_)
    simp only [Bool.not_true, Bool.false_eq_true, if_false, bne_self_eq_false]
    refine hd.bind (.now fun _ => ?_)
    simp only [if_neg (show ¬ 1 + 5 * (cntL l : Int) < 0 by omega), bne_self_eq_false, Bool.false_eq_true, if_false]
  obtain ⟨K, h⟩ := key
  exact ⟨K, h K (Nat.le_refl _)⟩
theorem FnExactWedge_pure (a b : S3) (p : S4) : ∃ k, laws_FnExactWedge.f k a b p = some true := by
  have key : Ev (fun k => laws_FnExactWedge.f k a b p) true := by
    simp only [laws_FnExactWedge.f, laws_toPt.f, laws_toPlane.f, Option.bind_some]
    obtain ⟨hw, hc⟩ := wd_tw a b p
    have s1 := sWedge_ev a b p
    have s2 := iWedge_ev a b p
    generalize wdV a b p = r at hw hc s1 s2
    obtain ⟨⟨b, q, l⟩, u, ⟨⟩⟩ := r
    simp only [Tree.kids] at hc
    have hb : 1 + 5 * (cntL l : Int) ≤ 4611686018427387904 := by omega
    have eq := eq_ok hw
    have hd := heldSolid_ev (b := b) (p := q) hb
    simp only [T1_eq]
    refine s1.bind (s2.bind (eq.bind ?_))
    simp only [Bool.not_true, Bool.false_eq_true, if_false, bne_self_eq_false, Tree.kids, Tree.inn, Tree.p, markSolid_f _ hb, Option.bind_some]
    refine hd.bind ?_
    simp only [if_neg (show ¬ 1 + 5 * (cntL l : Int) < 0 by omega), decide_eq_true_eq, bne_self_eq_false, Bool.false_eq_true, if_false]
    refine s2.bind (eq.bind ?_)
    simp only [Bool.not_true, Bool.false_eq_true, if_false, bne_self_eq_false]
    refine hd.bind (.now fun _ => ?_)
    simp only [if_neg (show ¬ 1 + 5 * (cntL l : Int) < 0 by omega), bne_self_eq_false, Bool.false_eq_true, if_false]
  obtain ⟨K, h⟩ := key
  exact ⟨K, h K (Nat.le_refl _)⟩
end Go.Proofs.Ytlkcpldohlemcaa.Q
