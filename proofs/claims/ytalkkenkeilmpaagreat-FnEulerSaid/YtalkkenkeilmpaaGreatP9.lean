/- Lists of planes: right, open, by both programs. -/
import Derived.Test.YtalkkenkeilmpaaGreatP4
namespace Go.Proofs.YtalkkenkeilmpaaGreat.Q
open Go Go.RowKit Go.Proofs Go.Proofs.YtalkkenkeilmpaaGreat.Ev Go.Proofs.YtalkkenkeilmpaaGreat.G
set_option linter.unusedSimpArgs false
set_option linter.unusedVariables false

theorem rd_in {L : List S4} {i : Nat} (h : i < L.length) : rd L (i : Int) = L[i] := by simp [rd, List.getD_eq_getElem?_getD, h]
theorem all_drop {L : List S4} {f : S4 → Bool} {i : Nat} (h : i < L.length) : (L.drop i).all f = (f (rd L (i : Int)) && (L.drop (i + 1)).all f) := by
  rw [rd_in h, ← List.getElem_cons_drop h]; rfl
theorem l6Right_l2 {L : List S4} (hl : L.length ≤ 2097152) : ∀ (d i : Nat), L.length - i = d → i ≤ L.length → Lv (fun k n => spec_l6Right.l2 k n L (i : Int)) (if (L.drop i).all okp = true then .inr ((L, ()), ()) else .inl ((false, ()), ())) := by
  intro d
  induction d with
  | zero =>
    intro i hd hi
    refine Lv.step (g := fun k n => spec_l6Right.s2 k (spec_l6Right.l2 k n) L (i : Int)) ?_ (fun _ _ => rfl)
    simp only [spec_l6Right.s2, decide_eq_true_eq, if_neg (show ¬ (i : Int) < (L.length : Int) by omega)]
    rw [List.drop_eq_nil_of_le (by omega)]
    exact .now fun _ _ => rfl
  | succ d ih =>
    intro i hd hi
    have hi' : i < L.length := by omega
    refine Lv.step (g := fun k n => spec_l6Right.s2 k (spec_l6Right.l2 k n) L (i : Int)) ?_ (fun _ _ => rfl)
    simp only [spec_l6Right.s2, decide_eq_true_eq, if_pos (show (i : Int) < (L.length : Int) by omega), if_pos (Int.natCast_nonneg _), wrn hi' hl]
    rw [all_drop hi']
    refine Lv.bind (spec_PlaneOk_ev _) ?_
    cases okp (rd L (i : Int)) with
    | false => exact .now fun _ _ => rfl
    | true => simp only [Bool.not_true, Bool.false_eq_true, if_false, Bool.true_and]; exact ih (i + 1) (by omega) (by omega)
theorem l6Right_ev {L : List S4} (hl : L.length ≤ 2097152) : Ev (fun k => spec_l6Right.f k L) (L.all okp && decide (L.length ≤ 24)) := by
  simp only [spec_l6Right.f]
  have := l6Right_l2 hl L.length 0 (by omega) (by omega)
  rw [List.drop_zero] at this
  refine this.ev.bind ?_
  cases L.all okp with
  | false => exact .now fun _ => rfl
  | true => refine .now fun _ => ?_; simp only [if_true, Bool.true_and]; congr 1; rw [decide_eq_decide]; omega
theorem planesOk_l2 {L : List S4} (hl : L.length ≤ 2097152) : ∀ (d i : Nat), L.length - i = d → i ≤ L.length → Lv (fun k n => impl_planesOk.l2 k n L (L.length : Int) (i : Int)) (if (L.drop i).all okp = true then .inr ((), ()) else .inl ((false, ()), ())) := by
  intro d
  induction d with
  | zero =>
    intro i hd hi
    refine Lv.step (g := fun k n => impl_planesOk.s2 k (impl_planesOk.l2 k n) L (L.length : Int) (i : Int)) ?_ (fun _ _ => rfl)
    simp only [impl_planesOk.s2, decide_eq_true_eq, if_neg (show ¬ (i : Int) < (L.length : Int) by omega)]
    rw [List.drop_eq_nil_of_le (by omega)]
    exact .now fun _ _ => rfl
  | succ d ih =>
    intro i hd hi
    have hi' : i < L.length := by omega
    refine Lv.step (g := fun k n => impl_planesOk.s2 k (impl_planesOk.l2 k n) L (L.length : Int) (i : Int)) ?_ (fun _ _ => rfl)
    simp only [impl_planesOk.s2, decide_eq_true_eq, if_pos (show (i : Int) < (L.length : Int) by omega), if_pos (Int.natCast_nonneg _), wrn hi' hl]
    rw [all_drop hi']
    refine Lv.bind (impl_PlaneOk_ev _) ?_
    cases okp (rd L (i : Int)) with
    | false => exact .now fun _ _ => rfl
    | true => simp only [Bool.not_true, Bool.false_eq_true, if_false, Bool.true_and]; exact ih (i + 1) (by omega) (by omega)
theorem planesOk_ev {L : List S4} (hl : L.length ≤ 2097152) : Ev (fun k => impl_planesOk.f k L) (L.all okp) := by
  simp only [impl_planesOk.f]
  have := planesOk_l2 hl L.length 0 (by omega) (by omega)
  rw [List.drop_zero] at this
  refine this.ev.bind ?_
  cases L.all okp <;> exact .now fun _ => rfl

/-- a plane clashes with those ahead of it -/
def opF (L : List S4) (i : Nat) : Bool := wl (L.take i) (rd L i)
def opn (L : List S4) : Bool := !anyF (opF L) L.length 0
theorem opF_0 (L : List S4) : opF L 0 = false := by simp [opF, wl, anyF]
theorem l6Open_l2 {L : List S4} (hL : ∀ p ∈ L, okp p = true) (hl : L.length ≤ 2097152) : ∀ (d i : Nat), L.length - i = d → i ≤ L.length → Lv (fun k n => spec_l6Open.l2 k n L (i : Int)) (if anyF (opF L) d i = true then .inl ((false, ()), ()) else .inr ((), ())) := by
  intro d
  induction d with
  | zero =>
    intro i hd hi
    refine Lv.step (g := fun k n => spec_l6Open.s2 k (spec_l6Open.l2 k n) L (i : Int)) ?_ (fun _ _ => rfl)
    simp only [spec_l6Open.s2, decide_eq_true_eq, if_neg (show ¬ (i : Int) < (L.length : Int) by omega)]
    exact .now fun _ _ => rfl
  | succ d ih =>
    intro i hd hi
    have hi' : i < L.length := by omega
    refine Lv.step (g := fun k n => spec_l6Open.s2 k (spec_l6Open.l2 k n) L (i : Int)) ?_ (fun _ _ => rfl)
    simp only [spec_l6Open.s2, decide_eq_true_eq, if_pos (show (i : Int) < (L.length : Int) by omega), if_pos (show (i : Int) ≤ (L.length : Int) by omega), if_pos (Int.natCast_nonneg _), Int.toNat_natCast, wrn hi' hl]
    rw [anyF, ite_or]
    exact or_lv (l6With_ev (take_ok hL i) (rdB hL i) (by rw [List.length_take]; omega)) fun _ => ih (i + 1) (by omega) (by omega)
theorem l6Open_ev {L : List S4} (hL : ∀ p ∈ L, okp p = true) (hl : L.length ≤ 2097152) : Ev (fun k => spec_l6Open.f k L) (opn L) := by
  simp only [spec_l6Open.f]
  by_cases h0 : L.length = 0
  · obtain rfl : L = [] := List.eq_nil_of_length_eq_zero h0
    have S : Lv (fun k n => spec_l6Open.l2 k n [] 1) (.inr ((), ())) := by
      refine Lv.step (g := fun k n => spec_l6Open.s2 k (spec_l6Open.l2 k n) [] 1) ?_ (fun _ _ => rfl)
      exact .now fun _ _ => by simp [spec_l6Open.s2]
    exact S.ev.bind (.now fun _ => by simp [opn, anyF])
  · refine (l6Open_l2 hL hl (L.length - 1) 1 (by omega) (by omega)).ev.bind ?_
    have e : anyF (opF L) L.length 0 = anyF (opF L) (L.length - 1) 1 := by
      obtain ⟨n, hn⟩ : ∃ n, L.length = n + 1 := ⟨L.length - 1, by omega⟩
      rw [hn, Nat.add_sub_cancel, anyF, opF_0, Bool.false_or]
    unfold opn; rw [e]
    cases anyF (opF L) (L.length - 1) 1 <;> exact .now fun _ => rfl
theorem open_l2 {L : List S4} (hL : ∀ p ∈ L, okp p = true) (hl : L.length ≤ 2097152) : ∀ (d i : Nat), L.length - i = d → i ≤ L.length → Lv (fun k n => impl_open.l2 k n L L (L.length : Int) (i : Int)) (if anyF (opF L) d i = true then .inl ((false, ()), ()) else .inr ((), ())) := by
  intro d
  induction d with
  | zero =>
    intro i hd hi
    refine Lv.step (g := fun k n => impl_open.s2 k (impl_open.l2 k n) L L (L.length : Int) (i : Int)) ?_ (fun _ _ => rfl)
    simp only [impl_open.s2, decide_eq_true_eq, if_neg (show ¬ (i : Int) < (L.length : Int) by omega)]
    exact .now fun _ _ => rfl
  | succ d ih =>
    intro i hd hi
    have hi' : i < L.length := by omega
    refine Lv.step (g := fun k n => impl_open.s2 k (impl_open.l2 k n) L L (L.length : Int) (i : Int)) ?_ (fun _ _ => rfl)
    simp only [impl_open.s2, decide_eq_true_eq, if_pos (show (i : Int) < (L.length : Int) by omega), if_pos (show (i : Int) ≤ (L.length : Int) by omega), if_pos (Int.natCast_nonneg _), Int.toNat_natCast, wrn hi' hl]
    rw [anyF, ite_or]
    refine Lv.bind (room_ev (take_ok hL i) (rdB hL i) (by rw [List.length_take]; omega)) ?_
    show Lv _ (if opF L i = true then _ else _)
    unfold opF
    cases wl (L.take i) (rd L (i : Int)) with
    | true => exact .now fun _ _ => rfl
    | false => simp only [Bool.not_false, Bool.not_true, Bool.false_eq_true, if_false]; exact ih (i + 1) (by omega) (by omega)
theorem open_ev {L : List S4} (hL : ∀ p ∈ L, okp p = true) (hl : L.length ≤ 2097152) : Ev (fun k => impl_open.f k L) (opn L) := by
  simp only [impl_open.f]
  refine (open_l2 hL hl L.length 0 (by omega) (by omega)).ev.bind ?_
  unfold opn
  cases anyF (opF L) L.length 0 <;> exact .now fun _ => rfl
end Go.Proofs.YtalkkenkeilmpaaGreat.Q
