/- Is a cell bounded, by both programs. -/
import Derived.Test.YtlkcpldohlemcaaE1
namespace Go.Proofs.Ytlkcpldohlemcaa.Q
open Go Go.RowKit Go.Proofs Go.Proofs.Ytlkcpldohlemcaa.Ev Go.Proofs.Ytlkcpldohlemcaa.G
set_option linter.unusedSimpArgs false
set_option linter.unusedVariables false
namespace Rk

def ng (v : S3) : S3 := ⟨-v.x, -v.y, -v.z⟩
def wy (v : S3) (L : List S4) : Bool := L.all (fun p => decide (0 ≤ ip (v3 p) v))
theorem ip_ng (u v : S3) : ip u (ng v) = -ip u v := by simp only [ip, ng, Int.mul_neg]; omega
theorem ng_ng (v : S3) : ng (ng v) = v := by simp [ng]
theorem cx_ng (u v : S3) : cx v u = ng (cx u v) := by
  rw [S3_ext]; simp only [cx, ng]; refine ⟨?_, ?_, ?_⟩ <;> grind
theorem ng_z {v : S3} : ng v = z3 ↔ v = z3 := by simp only [S3_ext, ng, z3]; omega
theorem ng_b {v : S3} (h : B6 v) : B6 (ng v) := by simp only [B6, ng] at *; omega
theorem ip_v3_bd {p : S4} {v : S3} (hp : Bd3 (v3 p)) (hv : B6 v) : -750000000 ≤ ip (v3 p) v ∧ ip (v3 p) v ≤ 750000000 := by
  have m1 := mul_bd hp.1 hv.1; have m2 := mul_bd hp.2.1 hv.2.1; have m3 := mul_bd hp.2.2 hv.2.2
  simp only [ip]; omega
def tv (t : Int) (v : S3) : S3 := if t = 1 then v else ng v
theorem wy_drop {L : List S4} {v : S3} {i : Nat} (h : i < L.length) : wy v (L.drop i) = (decide (0 ≤ ip (v3 (rd L (i : Int))) v) && wy v (L.drop (i + 1))) := by
  rw [← List.getElem_cons_drop h, ← rd_in h]; rfl
theorem way_l2 {L : List S4} (hL : ∀ p ∈ L, okp p = true) (hl : L.length ≤ 2097152) {v : S3} (hv : B6 v) {t : Int} (ht : t = 1 ∨ t = -1) : ∀ (d i : Nat), L.length - i = d → i ≤ L.length →
    Lv (fun k n => spec_l7Way.l2 k n L t (i : Int) v) (if wy (tv t v) (L.drop i) = true then .inr ((), ()) else .inl ((false, ()), ())) := by
  intro d
  induction d with
  | zero =>
    intro i hd hi
    refine Lv.step (g := fun k n => spec_l7Way.s2 k (spec_l7Way.l2 k n) L t (i : Int) v) ?_ (fun _ _ => rfl)
    simp only [spec_l7Way.s2, decide_eq_true_eq, if_neg (show ¬ (i : Int) < (L.length : Int) by omega)]
    rw [List.drop_eq_nil_of_le (by omega)]
    exact .now fun _ _ => rfl
  | succ d ih =>
    intro i hd hi
    have hi' : i < L.length := by omega
    have b := ip_v3_bd (rdB hL i).1 hv
    have e : W (t * (W ((W ((W ((rd L (i : Int)).a * v.x)) + (W ((rd L (i : Int)).b * v.y)))) + (W ((rd L (i : Int)).c * v.z))))) = ip (v3 (rd L (i : Int))) (tv t v) := by
      simp only [W_add_l, W_add_r]
      have e1 : (rd L (i : Int)).a * v.x + (rd L (i : Int)).b * v.y + (rd L (i : Int)).c * v.z = ip (v3 (rd L (i : Int))) v := rfl
      rw [e1, W_id (x := ip (v3 (rd L (i : Int))) v) (by omega) (by omega)]
      rcases ht with rfl | rfl
      · rw [Int.one_mul, W_id (by omega) (by omega)]; rfl
      · rw [Int.neg_one_mul, W_id (by omega) (by omega), tv, if_neg (by decide), ip_ng]
    refine Lv.step (g := fun k n => spec_l7Way.s2 k (spec_l7Way.l2 k n) L t (i : Int) v) ?_ (fun _ _ => rfl)
    simp only [spec_l7Way.s2, decide_eq_true_eq, if_pos (show (i : Int) < (L.length : Int) by omega), if_pos (Int.natCast_nonneg _), wrn hi' hl, e]
    rw [wy_drop hi']
    by_cases c : ip (v3 (rd L (i : Int))) (tv t v) < 0
    · rw [decide_eq_false (show ¬ 0 ≤ ip (v3 (rd L (i : Int))) (tv t v) by omega), Bool.false_and, if_neg (by decide)]
      simp only [if_pos c]
      exact .now fun _ _ => rfl
    · rw [decide_eq_true (show 0 ≤ ip (v3 (rd L (i : Int))) (tv t v) by omega), Bool.true_and]
      simp only [if_neg c]
      exact ih (i + 1) (by omega) (by omega)
theorem way_ev {L : List S4} (hL : ∀ p ∈ L, okp p = true) (hl : L.length ≤ 2097152) {v : S3} (hv : B6 v) {t : Int} (ht : t = 1 ∨ t = -1) : Ev (fun k => spec_l7Way.f k L v t) (wy (tv t v) L) := by
  have h := way_l2 hL hl hv ht L.length 0 (by omega) (by omega)
  rw [List.drop_zero] at h
  unfold spec_l7Way.f
  refine Ev.bind h.ev ?_
  cases wy (tv t v) L
  · exact .now fun _ => rfl
  · exact .now fun _ => rfl
theorem goesOn_l2 {L : List S4} (hL : ∀ p ∈ L, okp p = true) (hl : L.length ≤ 2097152) {v : S3} (hv : B6 v) : ∀ (d i : Nat), L.length - i = d → i ≤ L.length →
    Lv (fun k n => impl_goesOn.l2 k n L (L.length : Int) (i : Int) v) (if wy v (L.drop i) = true then .inr ((), ()) else .inl ((false, ()), ())) := by
  intro d
  induction d with
  | zero =>
    intro i hd hi
    refine Lv.step (g := fun k n => impl_goesOn.s2 k (impl_goesOn.l2 k n) L (L.length : Int) (i : Int) v) ?_ (fun _ _ => rfl)
    simp only [impl_goesOn.s2, decide_eq_true_eq, if_neg (show ¬ (i : Int) < (L.length : Int) by omega)]
    rw [List.drop_eq_nil_of_le (by omega)]
    exact .now fun _ _ => rfl
  | succ d ih =>
    intro i hd hi
    have hi' : i < L.length := by omega
    have b := ip_v3_bd (rdB hL i).1 hv
    have e : ∀ k, impl_dot.f k (v3 (rd L (i : Int))) v = some (ip (v3 (rd L (i : Int))) v) := fun k => dot_f k (by omega)
    refine Lv.step (g := fun k n => impl_goesOn.s2 k (impl_goesOn.l2 k n) L (L.length : Int) (i : Int) v) ?_ (fun _ _ => rfl)
    simp only [impl_goesOn.s2, decide_eq_true_eq, if_pos (show (i : Int) < (L.length : Int) by omega), if_pos (Int.natCast_nonneg _), wrn hi' hl, normal_f, Option.bind_some, e]
    rw [wy_drop hi']
    by_cases c : ip (v3 (rd L (i : Int))) v < 0
    · rw [decide_eq_false (show ¬ 0 ≤ ip (v3 (rd L (i : Int))) v by omega), Bool.false_and, if_neg (by decide)]
      simp only [if_pos c]
      exact .now fun _ _ => rfl
    · rw [decide_eq_true (show 0 ≤ ip (v3 (rd L (i : Int))) v by omega), Bool.true_and]
      simp only [if_neg c]
      exact ih (i + 1) (by omega) (by omega)
theorem goesOn_ev {L : List S4} (hL : ∀ p ∈ L, okp p = true) (hl : L.length ≤ 2097152) {v : S3} (hv : B6 v) : Ev (fun k => impl_goesOn.f k L v) (wy v L) := by
  have h := goesOn_l2 hL hl hv L.length 0 (by omega) (by omega)
  rw [List.drop_zero] at h
  unfold impl_goesOn.f
  refine Ev.bind h.ev ?_
  cases wy v L
  · exact .now fun _ => rfl
  · exact .now fun _ => rfl
/-- a pair along whose common way the list goes on -/
def bp (L : List S4) (u w : S3) : Bool := decide (cx u w ≠ z3) && (wy (cx u w) L || wy (ng (cx u w)) L)
theorem bp_swap (L : List S4) (u w : S3) : bp L u w = bp L w u := by
  unfold bp
  rw [cx_ng w u, ng_ng, Bool.or_comm]
  congr 1
  rw [decide_eq_decide]
  exact not_congr ng_z
def bI (L : List S4) (i j : Nat) : Bool := bp L (v3 (rd L (i : Int))) (v3 (rd L (j : Int)))
def bJ (L T : List S4) (q : S4) (j : Nat) : Bool := bp L (v3 q) (v3 (rd T (j : Int)))
theorem bdd_l7 {L : List S4} (hL : ∀ p ∈ L, okp p = true) (hl : L.length ≤ 2097152) {i : Nat} (hi : i < L.length) : ∀ (d j : Nat), L.length - j = d → j ≤ L.length →
    Lv (fun k n => spec_l7Bounded.l7 k n L (i : Int) (j : Int)) (if anyF (bI L i) d j = true then .inl ((false, ()), ()) else .inr ((L, (i : Int), ()), ())) := by
  intro d
  induction d with
  | zero =>
    intro j hd hj
    refine Lv.step (g := fun k n => spec_l7Bounded.s7 k (spec_l7Bounded.l7 k n) L (i : Int) (j : Int)) ?_ (fun _ _ => rfl)
    simp only [spec_l7Bounded.s7, decide_eq_true_eq, if_neg (show ¬ (j : Int) < (L.length : Int) by omega)]
    exact .now fun _ _ => rfl
  | succ d ih =>
    intro j hd hj
    have hj' : j < L.length := by omega
    have e : ∀ k, spec_l4Cross.f k (rd L (i : Int)) (rd L (j : Int)) = some (cx (v3 (rd L (i : Int))) (v3 (rd L (j : Int)))) := fun k => l4Cross_f k (rdB hL i).1 (rdB hL j).1
    have hv := cx_bd (rdB hL i).1 (rdB hL j).1
    have ih' := ih (j + 1) (by omega) (by omega)
    refine Lv.step (g := fun k n => spec_l7Bounded.s7 k (spec_l7Bounded.l7 k n) L (i : Int) (j : Int)) ?_ (fun _ _ => rfl)
    simp only [spec_l7Bounded.s7, decide_eq_true_eq, if_pos (show (i : Int) < (L.length : Int) by omega), if_pos (show (j : Int) < (L.length : Int) by omega), if_pos (Int.natCast_nonneg _), wrn hj' hl, e, Option.bind_some, z3_iff]
    have w1 := way_ev hL hl hv (t := 1) (.inl rfl)
    have w2 := way_ev hL hl hv (t := -1) (.inr rfl)
    rw [anyF, ite_or, show bI L i j = (decide (cx (v3 (rd L (i : Int))) (v3 (rd L (j : Int))) ≠ z3) && (wy (cx (v3 (rd L (i : Int))) (v3 (rd L (j : Int)))) L || wy (ng (cx (v3 (rd L (i : Int))) (v3 (rd L (j : Int))))) L)) from rfl]
    generalize cx (v3 (rd L (i : Int))) (v3 (rd L (j : Int))) = x at w1 w2 ⊢
    by_cases c : x = z3
    · rw [decide_eq_false (show ¬ x ≠ z3 by simp [c]), Bool.false_and, if_neg (by decide)]
      simp only [c, not_true_eq_false, if_false]
      exact ih'
    · rw [decide_eq_true (show x ≠ z3 from c), Bool.true_and, ite_or]
      simp only [c, not_false_eq_true, if_true]
      exact or_lv w1 fun _ => or_lv w2 fun _ => ih'
theorem bdd_l4 {L : List S4} (hL : ∀ p ∈ L, okp p = true) (hl : L.length ≤ 2097152) : ∀ (d i : Nat), L.length - i = d → i ≤ L.length →
    Lv (fun k n => spec_l7Bounded.l4 k n L (i : Int)) (if anyF (fun i => anyF (bI L i) (L.length - (i + 1)) (i + 1)) d i = true then .inl ((false, ()), ()) else .inr ((), ())) := by
  intro d
  induction d with
  | zero =>
    intro i hd hi
    refine Lv.step (g := fun k n => spec_l7Bounded.s4 k (spec_l7Bounded.l4 k n) L (i : Int)) ?_ (fun _ _ => rfl)
    simp only [spec_l7Bounded.s4, decide_eq_true_eq, if_neg (show ¬ (i : Int) < (L.length : Int) by omega)]
    exact .now fun _ _ => rfl
  | succ d ih =>
    intro i hd hi
    have hi' : i < L.length := by omega
    refine Lv.step (g := fun k n => spec_l7Bounded.s4 k (spec_l7Bounded.l4 k n) L (i : Int)) ?_ (fun _ _ => rfl)
    simp only [spec_l7Bounded.s4, decide_eq_true_eq, if_pos (show (i : Int) < (L.length : Int) by omega), wrn hi' hl]
    refine Lv.bind (bdd_l7 hL hl hi' (L.length - (i + 1)) (i + 1) rfl (by omega)).ev ?_
    rw [anyF, ite_or]
    cases c : anyF (bI L i) (L.length - (i + 1)) (i + 1)
    · simp only [Bool.false_eq_true, if_false, wrn hi' hl]
      exact ih (i + 1) (by omega) (by omega)
    · simp only [if_true]
      exact .now fun _ _ => rfl
theorem bounded_l7 {L T : List S4} {q : S4} (hL : ∀ p ∈ L, okp p = true) (hT : ∀ p ∈ T, okp p = true) (hq : Bd4 q) (hl : L.length ≤ 2097152) (hT' : T.length ≤ 2097152) {u v : Int} : ∀ (d j : Nat), T.length - j = d → j ≤ T.length →
    Lv (fun k n => impl_bounded.l7 k n L L u v T (T.length : Int) (j : Int) q) (if anyF (bJ L T q) d j = true then .inl ((false, ()), ()) else .inr ((L, L, u, v, ()), ())) := by
  intro d
  induction d with
  | zero =>
    intro j hd hj
    refine Lv.step (g := fun k n => impl_bounded.s7 k (impl_bounded.l7 k n) L L u v T (T.length : Int) (j : Int) q) ?_ (fun _ _ => rfl)
    simp only [impl_bounded.s7, decide_eq_true_eq, if_neg (show ¬ (j : Int) < (T.length : Int) by omega)]
    exact .now fun _ _ => rfl
  | succ d ih =>
    intro j hd hj
    have hj' : j < T.length := by omega
    have e : ∀ k, impl_crossOf.f k (v3 q) (v3 (rd T (j : Int))) = some (cx (v3 q) (v3 (rd T (j : Int)))) := fun k => crossOf_f k hq.1 (rdB hT j).1
    have hv := cx_bd hq.1 (rdB hT j).1
    have ih' := ih (j + 1) (by omega) (by omega)
    refine Lv.step (g := fun k n => impl_bounded.s7 k (impl_bounded.l7 k n) L L u v T (T.length : Int) (j : Int) q) ?_ (fun _ _ => rfl)
    simp only [impl_bounded.s7, decide_eq_true_eq, if_pos (show (j : Int) < (T.length : Int) by omega), if_pos (Int.natCast_nonneg _), wrn hj' hT', normal_f, e, Option.bind_some, z3_b]
    have w1 := goesOn_ev hL hl hv
    have w2 := goesOn_ev hL hl (ng_b hv)
    rw [anyF, ite_or, show bJ L T q j = (decide (cx (v3 q) (v3 (rd T (j : Int))) ≠ z3) && (wy (cx (v3 q) (v3 (rd T (j : Int)))) L || wy (ng (cx (v3 q) (v3 (rd T (j : Int))))) L)) from rfl]
    generalize cx (v3 q) (v3 (rd T (j : Int))) = x at hv w1 w2 ⊢
    have hn : (⟨W (0 - x.x), W (0 - x.y), W (0 - x.z)⟩ : S3) = ng x := by
      have hv' := hv
      simp only [B6] at hv'
      rw [W_id (x := 0 - x.x) (by omega) (by omega), W_id (x := 0 - x.y) (by omega) (by omega), W_id (x := 0 - x.z) (by omega) (by omega)]
      simp [ng]
    by_cases c : x = z3
    · rw [decide_eq_false (show ¬ x ≠ z3 by simp [c]), Bool.false_and, if_neg (by decide)]
      simp only [c, if_true]
      exact ih'
    · rw [decide_eq_true (show x ≠ z3 from c), Bool.true_and, ite_or]
      simp only [if_neg c, hn]
      exact or_lv w1 fun _ => or_lv w2 fun _ => ih'
theorem bounded_l4 {L : List S4} (hL : ∀ p ∈ L, okp p = true) (hl : L.length ≤ 2097152) : ∀ (d i : Nat), L.length - i = d → i ≤ L.length →
    Lv (fun k n => impl_bounded.l4 k n L L (L.length : Int) (i : Int)) (if anyF (fun i => anyF (bJ L (L.take i) (rd L (i : Int))) i 0) d i = true then .inl ((false, ()), ()) else .inr ((), ())) := by
  intro d
  induction d with
  | zero =>
    intro i hd hi
    refine Lv.step (g := fun k n => impl_bounded.s4 k (impl_bounded.l4 k n) L L (L.length : Int) (i : Int)) ?_ (fun _ _ => rfl)
    simp only [impl_bounded.s4, decide_eq_true_eq, if_neg (show ¬ (i : Int) < (L.length : Int) by omega)]
    exact .now fun _ _ => rfl
  | succ d ih =>
    intro i hd hi
    have hi' : i < L.length := by omega
    have lt : (L.take i).length = i := by rw [List.length_take]; omega
    refine Lv.step (g := fun k n => impl_bounded.s4 k (impl_bounded.l4 k n) L L (L.length : Int) (i : Int)) ?_ (fun _ _ => rfl)
    simp only [impl_bounded.s4, decide_eq_true_eq, if_pos (show (i : Int) < (L.length : Int) by omega), if_pos (show (i : Int) ≤ (L.length : Int) by omega), if_pos (Int.natCast_nonneg _), Int.toNat_natCast]
    refine Lv.bind (bounded_l7 (T := L.take i) (q := rd L (i : Int)) (u := (L.length : Int)) (v := (i : Int)) hL (take_ok hL i) (rdB hL i) hl (by omega) i 0 (by omega) (by omega)).ev ?_
    rw [anyF, ite_or]
    cases c : anyF (bJ L (L.take i) (rd L (i : Int))) i 0
    · simp only [Bool.false_eq_true, if_false, wrn hi' hl]
      exact ih (i + 1) (by omega) (by omega)
    · simp only [if_true]
      exact .now fun _ _ => rfl
theorem bI_bJ {L : List S4} : anyF (fun i => anyF (bI L i) (L.length - (i + 1)) (i + 1)) L.length 0 = anyF (fun i => anyF (bJ L (L.take i) (rd L (i : Int))) i 0) L.length 0 := by
  rw [Bool.eq_iff_iff]
  simp only [anyF_iff, bI, bJ]
  constructor
  · rintro ⟨i, _, h1, j, h2, h3, h⟩
    exact ⟨j, by omega, by omega, i, by omega, by omega, by rw [rd_take (by omega), bp_swap]; exact h⟩
  · rintro ⟨i, _, h1, j, _, h2, h⟩
    rw [rd_take (by omega), bp_swap] at h
    exact ⟨j, by omega, by omega, i, by omega, by omega, h⟩
/-- does a cell go on for ever -/
def bddV (L : List S4) : Bool := if rkV L < 3 then false else !anyF (fun i => anyF (bI L i) (L.length - (i + 1)) (i + 1)) L.length 0
theorem l7Bounded_ev {L : List S4} (hL : ∀ p ∈ L, okp p = true) (hl : L.length ≤ 2097152) : Ev (fun k => spec_l7Bounded.f k L) (bddV L) := by
  unfold spec_l7Bounded.f bddV
  refine Ev.bind (l4Rank_ev hL hl) ?_
  by_cases c : rkV L < 3
  · simp only [if_pos c, decide_eq_true_eq]; exact .now fun _ => rfl
  · simp only [if_neg c, decide_eq_true_eq]
    refine Ev.bind (bdd_l4 hL hl L.length 0 (by omega) (by omega)).ev ?_
    cases anyF (fun i => anyF (bI L i) (L.length - (i + 1)) (i + 1)) L.length 0
    · exact .now fun _ => rfl
    · exact .now fun _ => rfl
theorem bounded_ev {L : List S4} (hL : ∀ p ∈ L, okp p = true) (hl : L.length ≤ 2097152) : Ev (fun k => impl_bounded.f k L) (bddV L) := by
  unfold impl_bounded.f bddV
  refine Ev.bind (Rank_ev hL hl) ?_
  by_cases c : rkV L < 3
  · simp only [if_pos c, decide_eq_true_eq]; exact .now fun _ => rfl
  · simp only [if_neg c, decide_eq_true_eq]
    rw [bI_bJ]
    refine Ev.bind (bounded_l4 hL hl L.length 0 (by omega) (by omega)).ev ?_
    cases anyF (fun i => anyF (bJ L (L.take i) (rd L (i : Int))) i 0) L.length 0
    · exact .now fun _ => rfl
    · exact .now fun _ => rfl
end Rk
end Go.Proofs.Ytlkcpldohlemcaa.Q
