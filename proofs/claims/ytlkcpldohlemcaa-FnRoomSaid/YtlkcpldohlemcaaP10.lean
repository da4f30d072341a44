/- Blame: the rows of places, one behind the other. -/
import Derived.Test.YtlkcpldohlemcaaP9
namespace Go.Proofs.Ytlkcpldohlemcaa.Q
open Go Go.RowKit Go.Proofs Go.Proofs.Ytlkcpldohlemcaa.Ev Go.Proofs.Ytlkcpldohlemcaa.G
set_option linter.unusedSimpArgs false
set_option linter.unusedVariables false

theorem W_small {x : Int} (h0 : -1000 ≤ x) (h1 : x ≤ 1000) : W x = x := W_id (by omega) (by omega)
def nfin : spec_l6Next.B2 → Bool × List Int
  | .inl r2 => (r2.1.2.1, r2.2.1)
  | .inr x3 => (false, x3.2.1)
theorem next_of {l : List Int} {n : Int} {r : spec_l6Next.B2} (h : Lv (fun k m => spec_l6Next.l2 k m n (W ((l.length : Int) - 1)) l) r) : Ev (fun k => spec_l6Next.f k l n) (nfin r) := by
  simp only [spec_l6Next.f]
  refine h.ev.bind (.now fun _ => ?_)
  cases r <;> rfl
theorem l7_end {l : List Int} {x : Int} (h : (l.length : Int) ≤ x) : Lv (fun k m => spec_l6Next.l7 k m x l) (((), ()), (l, ())) := by
  refine Lv.step (g := fun k m => spec_l6Next.s7 k (spec_l6Next.l7 k m) x l) ?_ (fun _ _ => rfl)
  simp only [spec_l6Next.s7, decide_eq_true_eq, if_neg (show ¬ x < (l.length : Int) by omega)]
  exact .now fun _ _ => rfl
theorem l7_step {l : List Int} {i : Nat} {r : spec_l6Next.B7} (h0 : 1 ≤ i) (h : i < l.length) (hl : l.length ≤ 100) (hr : Lv (fun k m => spec_l6Next.l7 k m ((i + 1 : Nat) : Int) (l.set i (W (l.getD (i - 1) default + 1)))) r) : Lv (fun k m => spec_l6Next.l7 k m (i : Int) l) r := by
  refine Lv.step (g := fun k m => spec_l6Next.s7 k (spec_l6Next.l7 k m) (i : Int) l) ?_ (fun _ _ => rfl)
  have w1 : W ((i : Int) - 1) = ((i - 1 : Nat) : Int) := by rw [W_small (by omega) (by omega)]; omega
  have w2 : W ((i : Int) + 1) = ((i + 1 : Nat) : Int) := by rw [W_small (by omega) (by omega)]; omega
  simp only [spec_l6Next.s7, decide_eq_true_eq, w1, w2, Int.toNat_natCast, if_pos (show (i : Int) < (l.length : Int) by omega), if_pos (show ((i - 1 : Nat) : Int) < (l.length : Int) by omega), if_pos (Int.natCast_nonneg _), if_pos (show i - 1 < l.length by omega), if_pos h]
  exact hr
/-- a place that can go on: the row from there on is laid anew. -/
theorem l2_yes {l : List Int} {n : Int} {i : Nat} {r : List Int} (h : i < l.length) (hl : l.length ≤ 100) (hc : l.getD i default < W (W (n - (l.length : Int)) + (i : Int))) (hr : Lv (fun k m => spec_l6Next.l7 k m ((i + 1 : Nat) : Int) (l.set i (W (l.getD i default + 1)))) (((), ()), (r, ()))) : Lv (fun k m => spec_l6Next.l2 k m n (i : Int) l) (.inl (((), true, ()), (r, ()))) := by
  refine Lv.step (g := fun k m => spec_l6Next.s2 k (spec_l6Next.l2 k m) n (i : Int) l) ?_ (fun _ _ => rfl)
  have w2 : W ((i : Int) + 1) = ((i + 1 : Nat) : Int) := by rw [W_small (by omega) (by omega)]; omega
  simp only [spec_l6Next.s2, decide_eq_true_eq, w2, Int.toNat_natCast, if_pos (show (i : Int) ≥ 0 by omega), if_pos (Int.natCast_nonneg _), if_pos (show (i : Int) < (l.length : Int) by omega), if_pos h, if_pos hc]
  exact Lv.bind hr.ev (.now fun _ _ => rfl)
theorem l2_no {l : List Int} {n : Int} {i : Nat} {r : spec_l6Next.B2} (h : i < l.length) (hl : l.length ≤ 100) (hc : ¬ l.getD i default < W (W (n - (l.length : Int)) + (i : Int))) (hr : Lv (fun k m => spec_l6Next.l2 k m n ((i : Int) - 1) l) r) : Lv (fun k m => spec_l6Next.l2 k m n (i : Int) l) r := by
  refine Lv.step (g := fun k m => spec_l6Next.s2 k (spec_l6Next.l2 k m) n (i : Int) l) ?_ (fun _ _ => rfl)
  have w1 : W ((i : Int) - 1) = (i : Int) - 1 := W_small (by omega) (by omega)
  simp only [spec_l6Next.s2, decide_eq_true_eq, w1, Int.toNat_natCast, if_pos (show (i : Int) ≥ 0 by omega), if_pos (Int.natCast_nonneg _), if_pos (show (i : Int) < (l.length : Int) by omega), if_pos h, if_neg hc]
  exact hr
theorem l2_end {l : List Int} {n : Int} : Lv (fun k m => spec_l6Next.l2 k m n (-1) l) (.inr (((), ()), (l, ()))) := by
  refine Lv.step (g := fun k m => spec_l6Next.s2 k (spec_l6Next.l2 k m) n (-1) l) ?_ (fun _ _ => rfl)
  simp only [spec_l6Next.s2, decide_eq_true_eq, if_neg (show ¬ (-1 : Int) ≥ 0 by omega)]
  exact .now fun _ _ => rfl
theorem next2 {n i j : Int} (hn : 0 ≤ n ∧ n ≤ 100) (h0 : 0 ≤ i) (h1 : i < j) (hj : j < n) : Ev (fun q => spec_l6Next.f q [i, j] n) (if j + 1 < n then (true, [i, j + 1]) else if i + 2 < n then (true, [i + 1, i + 2]) else (false, [i, j])) := by
  have wn : W (n - (([i, j] : List Int).length : Int)) = n - 2 := by show W (n - 2) = n - 2; exact W_small (by omega) (by omega)
  have w0 : W (n - 2 + ((0 : Nat) : Int)) = n - 2 := by rw [W_small (by omega) (by omega)]; omega
  have g0 : ([i, j] : List Int).getD 0 default = i := rfl
  have w1 : W (n - 2 + ((1 : Nat) : Int)) = n - 1 := by rw [W_small (by omega) (by omega)]; omega
  have g1 : ([i, j] : List Int).getD 1 default = j := rfl
  have st : W ((([i, j] : List Int).length : Int) - 1) = ((1 : Nat) : Int) := by show W (2 - 1) = 1; exact W_small (by omega) (by omega)
  by_cases c1 : j + 1 < n
  · rw [if_pos c1]
    refine next_of (r := .inl (((), true, ()), ([i, j + 1], ()))) ?_
    rw [st]
    refine l2_yes (i := 1) (by simp) (by simp) (by rw [g1, wn, w1]; omega) ?_
    rw [g1, W_small (x := j + 1) (by omega) (by omega)]
    exact l7_end (by simp)
  rw [if_neg c1]
  by_cases c0 : i + 2 < n
  · rw [if_pos c0]
    refine next_of (r := .inl (((), true, ()), ([i + 1, i + 2], ()))) ?_
    rw [st]
    refine l2_no (i := 1) (by simp) (by simp) (by rw [g1, wn, w1]; omega) ?_
    refine l2_yes (i := 0) (by simp) (by simp) (by rw [g0, wn, w0]; omega) ?_
    rw [g0, W_small (x := i + 1) (by omega) (by omega)]
    refine l7_step (i := 1) (by omega) (by simp) (by simp) ?_
    show Lv (fun q m => spec_l6Next.l7 q m ((1 + 1 : Nat) : Int) [i + 1, W (i + 1 + 1)]) _
    rw [W_small (x := i + 1 + 1) (by omega) (by omega), show i + 1 + 1 = i + 2 by omega]
    exact l7_end (by simp)
  rw [if_neg c0]
  refine next_of (r := .inr (((), ()), ([i, j], ()))) ?_
  rw [st]
  refine l2_no (i := 1) (by simp) (by simp) (by rw [g1, wn, w1]; omega) ?_
  refine l2_no (i := 0) (by simp) (by simp) (by rw [g0, wn, w0]; omega) ?_
  exact l2_end
theorem next3 {n i j k : Int} (hn : 0 ≤ n ∧ n ≤ 100) (h0 : 0 ≤ i) (h1 : i < j) (h2 : j < k) (hj : k < n) : Ev (fun q => spec_l6Next.f q [i, j, k] n) (if k + 1 < n then (true, [i, j, k + 1]) else if j + 2 < n then (true, [i, j + 1, j + 2]) else if i + 3 < n then (true, [i + 1, i + 2, i + 3]) else (false, [i, j, k])) := by
  have wn : W (n - (([i, j, k] : List Int).length : Int)) = n - 3 := by show W (n - 3) = n - 3; exact W_small (by omega) (by omega)
  have w0 : W (n - 3 + ((0 : Nat) : Int)) = n - 3 := by rw [W_small (by omega) (by omega)]; omega
  have g0 : ([i, j, k] : List Int).getD 0 default = i := rfl
  have w1 : W (n - 3 + ((1 : Nat) : Int)) = n - 2 := by rw [W_small (by omega) (by omega)]; omega
  have g1 : ([i, j, k] : List Int).getD 1 default = j := rfl
  have w2 : W (n - 3 + ((2 : Nat) : Int)) = n - 1 := by rw [W_small (by omega) (by omega)]; omega
  have g2 : ([i, j, k] : List Int).getD 2 default = k := rfl
  have st : W ((([i, j, k] : List Int).length : Int) - 1) = ((2 : Nat) : Int) := by show W (3 - 1) = 2; exact W_small (by omega) (by omega)
  by_cases c2 : k + 1 < n
  · rw [if_pos c2]
    refine next_of (r := .inl (((), true, ()), ([i, j, k + 1], ()))) ?_
    rw [st]
    refine l2_yes (i := 2) (by simp) (by simp) (by rw [g2, wn, w2]; omega) ?_
    rw [g2, W_small (x := k + 1) (by omega) (by omega)]
    exact l7_end (by simp)
  rw [if_neg c2]
  by_cases c1 : j + 2 < n
  · rw [if_pos c1]
    refine next_of (r := .inl (((), true, ()), ([i, j + 1, j + 2], ()))) ?_
    rw [st]
    refine l2_no (i := 2) (by simp) (by simp) (by rw [g2, wn, w2]; omega) ?_
    refine l2_yes (i := 1) (by simp) (by simp) (by rw [g1, wn, w1]; omega) ?_
    rw [g1, W_small (x := j + 1) (by omega) (by omega)]
    refine l7_step (i := 2) (by omega) (by simp) (by simp) ?_
    show Lv (fun q m => spec_l6Next.l7 q m ((2 + 1 : Nat) : Int) [i, j + 1, W (j + 1 + 1)]) _
    rw [W_small (x := j + 1 + 1) (by omega) (by omega), show j + 1 + 1 = j + 2 by omega]
    exact l7_end (by simp)
  rw [if_neg c1]
  by_cases c0 : i + 3 < n
  · rw [if_pos c0]
    refine next_of (r := .inl (((), true, ()), ([i + 1, i + 2, i + 3], ()))) ?_
    rw [st]
    refine l2_no (i := 2) (by simp) (by simp) (by rw [g2, wn, w2]; omega) ?_
    refine l2_no (i := 1) (by simp) (by simp) (by rw [g1, wn, w1]; omega) ?_
    refine l2_yes (i := 0) (by simp) (by simp) (by rw [g0, wn, w0]; omega) ?_
    rw [g0, W_small (x := i + 1) (by omega) (by omega)]
    refine l7_step (i := 1) (by omega) (by simp) (by simp) ?_
    show Lv (fun q m => spec_l6Next.l7 q m ((1 + 1 : Nat) : Int) [i + 1, W (i + 1 + 1), k]) _
    rw [W_small (x := i + 1 + 1) (by omega) (by omega), show i + 1 + 1 = i + 2 by omega]
    refine l7_step (i := 2) (by omega) (by simp) (by simp) ?_
    show Lv (fun q m => spec_l6Next.l7 q m ((2 + 1 : Nat) : Int) [i + 1, i + 2, W (i + 2 + 1)]) _
    rw [W_small (x := i + 2 + 1) (by omega) (by omega), show i + 2 + 1 = i + 3 by omega]
    exact l7_end (by simp)
  rw [if_neg c0]
  refine next_of (r := .inr (((), ()), ([i, j, k], ()))) ?_
  rw [st]
  refine l2_no (i := 2) (by simp) (by simp) (by rw [g2, wn, w2]; omega) ?_
  refine l2_no (i := 1) (by simp) (by simp) (by rw [g1, wn, w1]; omega) ?_
  refine l2_no (i := 0) (by simp) (by simp) (by rw [g0, wn, w0]; omega) ?_
  exact l2_end
theorem next4 {n i j k l : Int} (hn : 0 ≤ n ∧ n ≤ 100) (h0 : 0 ≤ i) (h1 : i < j) (h2 : j < k) (h3 : k < l) (hj : l < n) : Ev (fun q => spec_l6Next.f q [i, j, k, l] n) (if l + 1 < n then (true, [i, j, k, l + 1]) else if k + 2 < n then (true, [i, j, k + 1, k + 2]) else if j + 3 < n then (true, [i, j + 1, j + 2, j + 3]) else if i + 4 < n then (true, [i + 1, i + 2, i + 3, i + 4]) else (false, [i, j, k, l])) := by
  have wn : W (n - (([i, j, k, l] : List Int).length : Int)) = n - 4 := by show W (n - 4) = n - 4; exact W_small (by omega) (by omega)
  have w0 : W (n - 4 + ((0 : Nat) : Int)) = n - 4 := by rw [W_small (by omega) (by omega)]; omega
  have g0 : ([i, j, k, l] : List Int).getD 0 default = i := rfl
  have w1 : W (n - 4 + ((1 : Nat) : Int)) = n - 3 := by rw [W_small (by omega) (by omega)]; omega
  have g1 : ([i, j, k, l] : List Int).getD 1 default = j := rfl
  have w2 : W (n - 4 + ((2 : Nat) : Int)) = n - 2 := by rw [W_small (by omega) (by omega)]; omega
  have g2 : ([i, j, k, l] : List Int).getD 2 default = k := rfl
  have w3 : W (n - 4 + ((3 : Nat) : Int)) = n - 1 := by rw [W_small (by omega) (by omega)]; omega
  have g3 : ([i, j, k, l] : List Int).getD 3 default = l := rfl
  have st : W ((([i, j, k, l] : List Int).length : Int) - 1) = ((3 : Nat) : Int) := by show W (4 - 1) = 3; exact W_small (by omega) (by omega)
  by_cases c3 : l + 1 < n
  · rw [if_pos c3]
    refine next_of (r := .inl (((), true, ()), ([i, j, k, l + 1], ()))) ?_
    rw [st]
    refine l2_yes (i := 3) (by simp) (by simp) (by rw [g3, wn, w3]; omega) ?_
    rw [g3, W_small (x := l + 1) (by omega) (by omega)]
    exact l7_end (by simp)
  rw [if_neg c3]
  by_cases c2 : k + 2 < n
  · rw [if_pos c2]
    refine next_of (r := .inl (((), true, ()), ([i, j, k + 1, k + 2], ()))) ?_
    rw [st]
    refine l2_no (i := 3) (by simp) (by simp) (by rw [g3, wn, w3]; omega) ?_
    refine l2_yes (i := 2) (by simp) (by simp) (by rw [g2, wn, w2]; omega) ?_
    rw [g2, W_small (x := k + 1) (by omega) (by omega)]
    refine l7_step (i := 3) (by omega) (by simp) (by simp) ?_
    show Lv (fun q m => spec_l6Next.l7 q m ((3 + 1 : Nat) : Int) [i, j, k + 1, W (k + 1 + 1)]) _
    rw [W_small (x := k + 1 + 1) (by omega) (by omega), show k + 1 + 1 = k + 2 by omega]
    exact l7_end (by simp)
  rw [if_neg c2]
  by_cases c1 : j + 3 < n
  · rw [if_pos c1]
    refine next_of (r := .inl (((), true, ()), ([i, j + 1, j + 2, j + 3], ()))) ?_
    rw [st]
    refine l2_no (i := 3) (by simp) (by simp) (by rw [g3, wn, w3]; omega) ?_
    refine l2_no (i := 2) (by simp) (by simp) (by rw [g2, wn, w2]; omega) ?_
    refine l2_yes (i := 1) (by simp) (by simp) (by rw [g1, wn, w1]; omega) ?_
    rw [g1, W_small (x := j + 1) (by omega) (by omega)]
    refine l7_step (i := 2) (by omega) (by simp) (by simp) ?_
    show Lv (fun q m => spec_l6Next.l7 q m ((2 + 1 : Nat) : Int) [i, j + 1, W (j + 1 + 1), l]) _
    rw [W_small (x := j + 1 + 1) (by omega) (by omega), show j + 1 + 1 = j + 2 by omega]
    refine l7_step (i := 3) (by omega) (by simp) (by simp) ?_
    show Lv (fun q m => spec_l6Next.l7 q m ((3 + 1 : Nat) : Int) [i, j + 1, j + 2, W (j + 2 + 1)]) _
    rw [W_small (x := j + 2 + 1) (by omega) (by omega), show j + 2 + 1 = j + 3 by omega]
    exact l7_end (by simp)
  rw [if_neg c1]
  by_cases c0 : i + 4 < n
  · rw [if_pos c0]
    refine next_of (r := .inl (((), true, ()), ([i + 1, i + 2, i + 3, i + 4], ()))) ?_
    rw [st]
    refine l2_no (i := 3) (by simp) (by simp) (by rw [g3, wn, w3]; omega) ?_
    refine l2_no (i := 2) (by simp) (by simp) (by rw [g2, wn, w2]; omega) ?_
    refine l2_no (i := 1) (by simp) (by simp) (by rw [g1, wn, w1]; omega) ?_
    refine l2_yes (i := 0) (by simp) (by simp) (by rw [g0, wn, w0]; omega) ?_
    rw [g0, W_small (x := i + 1) (by omega) (by omega)]
    refine l7_step (i := 1) (by omega) (by simp) (by simp) ?_
    show Lv (fun q m => spec_l6Next.l7 q m ((1 + 1 : Nat) : Int) [i + 1, W (i + 1 + 1), k, l]) _
    rw [W_small (x := i + 1 + 1) (by omega) (by omega), show i + 1 + 1 = i + 2 by omega]
    refine l7_step (i := 2) (by omega) (by simp) (by simp) ?_
    show Lv (fun q m => spec_l6Next.l7 q m ((2 + 1 : Nat) : Int) [i + 1, i + 2, W (i + 2 + 1), l]) _
    rw [W_small (x := i + 2 + 1) (by omega) (by omega), show i + 2 + 1 = i + 3 by omega]
    refine l7_step (i := 3) (by omega) (by simp) (by simp) ?_
    show Lv (fun q m => spec_l6Next.l7 q m ((3 + 1 : Nat) : Int) [i + 1, i + 2, i + 3, W (i + 3 + 1)]) _
    rw [W_small (x := i + 3 + 1) (by omega) (by omega), show i + 3 + 1 = i + 4 by omega]
    exact l7_end (by simp)
  rw [if_neg c0]
  refine next_of (r := .inr (((), ()), ([i, j, k, l], ()))) ?_
  rw [st]
  refine l2_no (i := 3) (by simp) (by simp) (by rw [g3, wn, w3]; omega) ?_
  refine l2_no (i := 2) (by simp) (by simp) (by rw [g2, wn, w2]; omega) ?_
  refine l2_no (i := 1) (by simp) (by simp) (by rw [g1, wn, w1]; omega) ?_
  refine l2_no (i := 0) (by simp) (by simp) (by rw [g0, wn, w0]; omega) ?_
  exact l2_end
end Go.Proofs.Ytlkcpldohlemcaa.Q
