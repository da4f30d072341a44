/- The edges of a cell, by both programs; FnExactEdgesOf. -/
import Derived.Test.YtlkcpldohlemcaaC5
import Derived.Test.YtlkcpldohlemcaaE2
namespace Go.Proofs.Ytlkcpldohlemcaa.Q
open Go Go.RowKit Go.Proofs Go.Proofs.Ytlkcpldohlemcaa.Ev Go.Proofs.Ytlkcpldohlemcaa.G
set_option linter.unusedSimpArgs false
set_option linter.unusedVariables false
namespace Rk

theorem opV_ok {L : List S4} (h : opV L = true) : (∀ p ∈ L, okp p = true) ∧ L.length ≤ 24 := by
  unfold opV at h
  rw [Bool.and_eq_true, Bool.and_eq_true, decide_eq_true_eq] at h
  exact ⟨fun p hp => List.all_eq_true.1 h.1.1 p hp, h.1.2⟩
theorem Bounded_ev {L : List S4} (hl : L.length ≤ 2097152) : Ev (fun k => impl_Bounded.f k L) (opV L && bddV L) := by
  unfold impl_Bounded.f
  refine Ev.bind (iOpen_ev hl) ?_
  cases h : opV L
  · exact .now fun _ => rfl
  · simp only [if_true]
    exact Ev.bind (bounded_ev (opV_ok h).1 hl) (.now fun _ => rfl)
theorem sBounded_ev {L : List S4} (hl : L.length ≤ 2097152) : Ev (fun k => spec_Bounded.f k L) (opV L && bddV L) := by
  unfold spec_Bounded.f
  refine Ev.bind (sOpen_ev hl) ?_
  cases h : opV L
  · exact .now fun _ => rfl
  · simp only [if_true]
    exact Ev.bind (l7Bounded_ev (opV_ok h).1 hl) (.now fun _ => rfl)
theorem wrN {α : Type} {L : List α} {c : Nat} (h : c < L.length) (hl : L.length ≤ 4611686018427387903) : W ((c : Int) + 1) = ((c + 1 : Nat) : Int) := by rw [W_id (by omega) (by omega)]; omega
/-- the planes that two spots are on -/
def onF (s t : S4) (p : S4) : Bool := decide (sd p s = 0) && decide (sd p t = 0)
def onL (s t : S4) (L : List S4) : List S4 := L.filter (onF s t)
theorem onL_ok {L : List S4} (hL : ∀ p ∈ L, okp p = true) (s t : S4) : ∀ p ∈ onL s t L, okp p = true := fun p hp => hL p (List.mem_filter.mp hp).1
theorem onL_len (L : List S4) (s t : S4) : (onL s t L).length ≤ L.length := List.length_filter_le _ _
theorem onL_drop {L : List S4} {s t : S4} {i : Nat} (h : i < L.length) : onL s t (L.drop i) = (if onF s t (rd L (i : Int)) = true then [rd L (i : Int)] else []) ++ onL s t (L.drop (i + 1)) := by
  rw [← List.getElem_cons_drop h, ← rd_in h]
  unfold onL
  rw [List.filter_cons]
  split <;> rfl
theorem isEdge_l3 {L : List S4} (hl : L.length ≤ 2097152) {s t : S4} : ∀ (d i : Nat) (o : List S4), L.length - i = d → i ≤ L.length → o.length ≤ i →
    Lv (fun k n => impl_isEdge.l3 k n L (L.length : Int) (i : Int) s t o) (((), ()), (o ++ onL s t (L.drop i), ())) := by
  intro d
  induction d with
  | zero =>
    intro i o hd hi ho
    refine Lv.step (g := fun k n => impl_isEdge.s3 k (impl_isEdge.l3 k n) L (L.length : Int) (i : Int) s t o) ?_ (fun _ _ => rfl)
    simp only [impl_isEdge.s3, decide_eq_true_eq, if_neg (show ¬ (i : Int) < (L.length : Int) by omega)]
    rw [List.drop_eq_nil_of_le (by omega), show onL s t [] = [] from rfl, List.append_nil]
    exact .now fun _ _ => rfl
  | succ d ih =>
    intro i o hd hi ho
    have hi' : i < L.length := by omega
    have l1 : lt47 (o.length + ([rd L (i : Int)] : List S4).length) = true := lt47_ok (by rw [List.length_singleton]; omega)
    refine Lv.step (g := fun k n => impl_isEdge.s3 k (impl_isEdge.l3 k n) L (L.length : Int) (i : Int) s t o) ?_ (fun _ _ => rfl)
    simp only [impl_isEdge.s3, decide_eq_true_eq, if_pos (show (i : Int) < (L.length : Int) by omega), if_pos (Int.natCast_nonneg _), wrn hi' hl, sideAt_f, Option.bind_some, eq_iff, l1, if_true]
    rw [onL_drop hi']
    unfold onF
    by_cases c1 : sd (rd L (i : Int)) s = 0
    · by_cases c2 : sd (rd L (i : Int)) t = 0
      · simp only [c1, c2, decide_true, Bool.and_self, if_true]
        have := ih (i + 1) (o ++ [rd L (i : Int)]) (by omega) (by omega) (by simp; omega)
        rw [List.append_assoc] at this
        exact this
      · simp only [c1, c2, decide_true, decide_false, Bool.and_false, Bool.false_eq_true, if_true, if_false, List.nil_append]
        exact ih (i + 1) o (by omega) (by omega) (by omega)
    · simp only [c1, decide_false, Bool.false_and, Bool.false_eq_true, if_false, List.nil_append]
      exact ih (i + 1) o (by omega) (by omega) (by omega)
theorem sEdge_l3 {L : List S4} (hl : L.length ≤ 2097152) {s t : S4} : ∀ (d i : Nat) (o : List S4), L.length - i = d → i ≤ L.length → o.length ≤ i →
    Lv (fun k n => spec_l7Edge.l3 k n L (i : Int) s t o) (((), ()), (o ++ onL s t (L.drop i), ())) := by
  intro d
  induction d with
  | zero =>
    intro i o hd hi ho
    refine Lv.step (g := fun k n => spec_l7Edge.s3 k (spec_l7Edge.l3 k n) L (i : Int) s t o) ?_ (fun _ _ => rfl)
    simp only [spec_l7Edge.s3, decide_eq_true_eq, if_neg (show ¬ (i : Int) < (L.length : Int) by omega)]
    rw [List.drop_eq_nil_of_le (by omega), show onL s t [] = [] from rfl, List.append_nil]
    exact .now fun _ _ => rfl
  | succ d ih =>
    intro i o hd hi ho
    have hi' : i < L.length := by omega
    have l1 : lt47 (o.length + ([rd L (i : Int)] : List S4).length) = true := lt47_ok (by rw [List.length_singleton]; omega)
    refine Lv.step (g := fun k n => spec_l7Edge.s3 k (spec_l7Edge.l3 k n) L (i : Int) s t o) ?_ (fun _ _ => rfl)
    simp only [spec_l7Edge.s3, decide_eq_true_eq, if_pos (show (i : Int) < (L.length : Int) by omega), if_pos (Int.natCast_nonneg _), wrn hi' hl, l5Side_f, Option.bind_some, eq_iff, l1, if_true]
    rw [onL_drop hi']
    unfold onF
    by_cases c1 : sd (rd L (i : Int)) s = 0
    · by_cases c2 : sd (rd L (i : Int)) t = 0
      · simp only [c1, c2, decide_true, Bool.and_self, if_true]
        have := ih (i + 1) (o ++ [rd L (i : Int)]) (by omega) (by omega) (by simp; omega)
        rw [List.append_assoc] at this
        exact this
      · simp only [c1, c2, decide_true, decide_false, Bool.and_false, Bool.false_eq_true, if_true, if_false, List.nil_append]
        exact ih (i + 1) o (by omega) (by omega) (by omega)
    · simp only [c1, decide_false, Bool.false_and, Bool.false_eq_true, if_false, List.nil_append]
      exact ih (i + 1) o (by omega) (by omega) (by omega)
def edgeV (L : List S4) (s t : S4) : Bool := decide (rkV (onL s t L) ≥ 2)
theorem isEdge_ev {L : List S4} (hL : ∀ p ∈ L, okp p = true) (hl : L.length ≤ 2097152) (s t : S4) : Ev (fun k => impl_isEdge.f k L s t) (edgeV L s t) := by
  unfold impl_isEdge.f
  have h := isEdge_l3 hl (s := s) (t := t) L.length 0 [] (by omega) (by omega) (by simp)
  rw [List.drop_zero, List.nil_append] at h
  exact h.ev.bind (Ev.bind (Rank_ev (onL_ok hL s t) (Nat.le_trans (onL_len L s t) hl)) (.now fun _ => rfl))
theorem sEdge_ev {L : List S4} (hL : ∀ p ∈ L, okp p = true) (hl : L.length ≤ 2097152) (s t : S4) : Ev (fun k => spec_l7Edge.f k L s t) (edgeV L s t) := by
  unfold spec_l7Edge.f
  have h := sEdge_l3 hl (s := s) (t := t) L.length 0 [] (by omega) (by omega) (by simp)
  rw [List.drop_zero, List.nil_append] at h
  exact h.ev.bind (Ev.bind (l4Rank_ev (onL_ok hL s t) (Nat.le_trans (onL_len L s t) hl)) (.now fun _ => rfl))
/-- the edges from a corner, from all -/
def edJ (L V : List S4) (i : Nat) : Nat → Nat → List I2
  | 0, _ => []
  | d + 1, j => (if edgeV L (rd V (i : Int)) (rd V (j : Int)) = true then [⟨(i : Int), (j : Int)⟩] else []) ++ edJ L V i d (j + 1)
def edI (L V : List S4) : Nat → Nat → List I2
  | 0, _ => []
  | d + 1, i => edJ L V i (V.length - (i + 1)) (i + 1) ++ edI L V d (i + 1)
theorem edJ_len (L V : List S4) (i : Nat) : ∀ d j, (edJ L V i d j).length ≤ d
  | 0, _ => Nat.le_refl _
  | d + 1, j => by
    have := edJ_len L V i d (j + 1)
    unfold edJ
    rw [List.length_append]
    split <;> simp <;> omega
theorem edI_len (L V : List S4) : ∀ d i, (edI L V d i).length ≤ d * V.length
  | 0, _ => by simp [edI]
  | d + 1, i => by
    have h1 := edI_len L V d (i + 1)
    have h2 := edJ_len L V i (V.length - (i + 1)) (i + 1)
    unfold edI
    rw [List.length_append, Nat.add_mul]
    omega
section
variable {L V : List S4} (hL : ∀ p ∈ L, okp p = true) (hl : L.length ≤ 2097152) (hV : V.length ≤ 20000)
include hL hl hV
theorem edges_l9 {i : Nat} (hi : i < V.length) {u : List S4} {a b : Int} : ∀ (d j : Nat) (o : List I2), V.length - j = d → j ≤ V.length → o.length + d ≤ 1000000000 →
    Lv (fun k n => impl_EdgesOf.l9 k n L V (i : Int) (j : Int) u a b (rd V (i : Int)) o) ((L, V, (), u, a, b, ()), (o ++ edJ L V i d j, ())) := by
  intro d
  induction d with
  | zero =>
    intro j o hd hj ho
    refine Lv.step (g := fun k n => impl_EdgesOf.s9 k (impl_EdgesOf.l9 k n) L V (i : Int) (j : Int) u a b (rd V (i : Int)) o) ?_ (fun _ _ => rfl)
    simp only [impl_EdgesOf.s9, decide_eq_true_eq, if_neg (show ¬ (j : Int) < (V.length : Int) by omega), edJ, List.append_nil]
    exact .now fun _ _ => rfl
  | succ d ih =>
    intro j o hd hj ho
    have hj' : j < V.length := by omega
    have l1 : lt47 (o.length + ([(⟨(i : Int), (j : Int)⟩ : I2)] : List I2).length) = true := lt47_ok (by rw [List.length_singleton]; omega)
    refine Lv.step (g := fun k n => impl_EdgesOf.s9 k (impl_EdgesOf.l9 k n) L V (i : Int) (j : Int) u a b (rd V (i : Int)) o) ?_ (fun _ _ => rfl)
    simp only [impl_EdgesOf.s9, decide_eq_true_eq, if_pos (show (j : Int) < (V.length : Int) by omega), if_pos (Int.natCast_nonneg _), wrn hj' (show V.length ≤ 2097152 by omega), l1, if_true]
    refine Lv.bind (isEdge_ev hL hl (rd V (i : Int)) (rd V (j : Int))) ?_
    rw [edJ]
    cases c : edgeV L (rd V (i : Int)) (rd V (j : Int))
    · simp only [Bool.false_eq_true, if_false, List.nil_append]
      exact ih (j + 1) o (by omega) (by omega) (by omega)
    · simp only [if_true]
      have := ih (j + 1) (o ++ [⟨(i : Int), (j : Int)⟩]) (by omega) (by omega) (by simp; omega)
      rw [List.append_assoc] at this
      exact this
theorem sEdges_l6 {i : Nat} (hi : i < V.length) : ∀ (d j : Nat) (o : List I2), V.length - j = d → j ≤ V.length → o.length + d ≤ 1000000000 →
    Lv (fun k n => spec_l7Edges.l6 k n L V (i : Int) (j : Int) o) ((L, V, (), (i : Int), ()), (o ++ edJ L V i d j, ())) := by
  intro d
  induction d with
  | zero =>
    intro j o hd hj ho
    refine Lv.step (g := fun k n => spec_l7Edges.s6 k (spec_l7Edges.l6 k n) L V (i : Int) (j : Int) o) ?_ (fun _ _ => rfl)
    simp only [spec_l7Edges.s6, decide_eq_true_eq, if_neg (show ¬ (j : Int) < (V.length : Int) by omega), edJ, List.append_nil]
    exact .now fun _ _ => rfl
  | succ d ih =>
    intro j o hd hj ho
    have hj' : j < V.length := by omega
    have l1 : lt47 (o.length + ([(⟨(i : Int), (j : Int)⟩ : I2)] : List I2).length) = true := lt47_ok (by rw [List.length_singleton]; omega)
    refine Lv.step (g := fun k n => spec_l7Edges.s6 k (spec_l7Edges.l6 k n) L V (i : Int) (j : Int) o) ?_ (fun _ _ => rfl)
    simp only [spec_l7Edges.s6, decide_eq_true_eq, if_pos (show (j : Int) < (V.length : Int) by omega), if_pos (show (i : Int) < (V.length : Int) by omega), if_pos (Int.natCast_nonneg _), wrn hj' (show V.length ≤ 2097152 by omega), l1, if_true]
    refine Lv.bind (sEdge_ev hL hl (rd V (i : Int)) (rd V (j : Int))) ?_
    rw [edJ]
    cases c : edgeV L (rd V (i : Int)) (rd V (j : Int))
    · simp only [Bool.false_eq_true, if_false, List.nil_append]
      exact ih (j + 1) o (by omega) (by omega) (by omega)
    · simp only [if_true]
      have := ih (j + 1) (o ++ [⟨(i : Int), (j : Int)⟩]) (by omega) (by omega) (by simp; omega)
      rw [List.append_assoc] at this
      exact this
theorem edges_l6 : ∀ (d i : Nat) (o : List I2), V.length - i = d → i ≤ V.length → o.length ≤ i * 20000 →
    Lv (fun k n => impl_EdgesOf.l6 k n L V V (V.length : Int) (i : Int) o) (((), ()), (o ++ edI L V d i, ())) := by
  intro d
  induction d with
  | zero =>
    intro i o hd hi ho
    refine Lv.step (g := fun k n => impl_EdgesOf.s6 k (impl_EdgesOf.l6 k n) L V V (V.length : Int) (i : Int) o) ?_ (fun _ _ => rfl)
    simp only [impl_EdgesOf.s6, decide_eq_true_eq, if_neg (show ¬ (i : Int) < (V.length : Int) by omega), edI, List.append_nil]
    exact .now fun _ _ => rfl
  | succ d ih =>
    intro i o hd hi ho
    have hi' : i < V.length := by omega
    refine Lv.step (g := fun k n => impl_EdgesOf.s6 k (impl_EdgesOf.l6 k n) L V V (V.length : Int) (i : Int) o) ?_ (fun _ _ => rfl)
    simp only [impl_EdgesOf.s6, decide_eq_true_eq, if_pos (show (i : Int) < (V.length : Int) by omega), if_pos (Int.natCast_nonneg _), wrn hi' (show V.length ≤ 2097152 by omega)]
    refine Lv.bind (edges_l9 hL hl hV hi' (u := V) (a := (V.length : Int)) (b := (i : Int)) (V.length - (i + 1)) (i + 1) o rfl (by omega) (by omega)).ev ?_
    simp only [wrn hi' (show V.length ≤ 2097152 by omega)]
    have hj := edJ_len L V i (V.length - (i + 1)) (i + 1)
    have := ih (i + 1) (o ++ edJ L V i (V.length - (i + 1)) (i + 1)) (by omega) (by omega) (by rw [List.length_append]; omega)
    rw [List.append_assoc] at this
    exact this
theorem sEdges_l3 : ∀ (d i : Nat) (o : List I2), V.length - i = d → i ≤ V.length → o.length ≤ i * 20000 →
    Lv (fun k n => spec_l7Edges.l3 k n L V (i : Int) o) (((), ()), (o ++ edI L V d i, ())) := by
  intro d
  induction d with
  | zero =>
    intro i o hd hi ho
    refine Lv.step (g := fun k n => spec_l7Edges.s3 k (spec_l7Edges.l3 k n) L V (i : Int) o) ?_ (fun _ _ => rfl)
    simp only [spec_l7Edges.s3, decide_eq_true_eq, if_neg (show ¬ (i : Int) < (V.length : Int) by omega), edI, List.append_nil]
    exact .now fun _ _ => rfl
  | succ d ih =>
    intro i o hd hi ho
    have hi' : i < V.length := by omega
    refine Lv.step (g := fun k n => spec_l7Edges.s3 k (spec_l7Edges.l3 k n) L V (i : Int) o) ?_ (fun _ _ => rfl)
    simp only [spec_l7Edges.s3, decide_eq_true_eq, if_pos (show (i : Int) < (V.length : Int) by omega), wrn hi' (show V.length ≤ 2097152 by omega)]
    refine Lv.bind (sEdges_l6 hL hl hV hi' (V.length - (i + 1)) (i + 1) o rfl (by omega) (by omega)).ev ?_
    simp only [wrn hi' (show V.length ≤ 2097152 by omega)]
    have hj := edJ_len L V i (V.length - (i + 1)) (i + 1)
    have := ih (i + 1) (o ++ edJ L V i (V.length - (i + 1)) (i + 1)) (by omega) (by omega) (by rw [List.length_append]; omega)
    rw [List.append_assoc] at this
    exact this
end
theorem EdgesOf_same {L : List S4} (hl : L.length ≤ 2097152) : ∃ v : List I2, v.length ≤ 1000000000 ∧ Ev (fun k => impl_EdgesOf.f k L) v ∧ Ev (fun k => spec_EdgesOf.f k L) v := by
  unfold impl_EdgesOf.f spec_EdgesOf.f
  cases hb : opV L && bddV L with
  | false =>
    refine ⟨[], by simp, (Bounded_ev hl).bind ?_, (sBounded_ev hl).bind ?_⟩
    · rw [hb]; exact .now fun _ => rfl
    · rw [hb]; exact .now fun _ => rfl
  | true =>
    have ho := (Bool.and_eq_true_iff.1 hb).1
    obtain ⟨hL, h24⟩ := opV_ok ho
    obtain ⟨V, _, hV, _, e1, e2⟩ := corners_same hL h24
    have q1 := edges_l6 hL hl (show V.length ≤ 20000 by omega) V.length 0 [] (by omega) (by omega) (by simp)
    have q2 := sEdges_l3 hL hl (show V.length ≤ 20000 by omega) V.length 0 [] (by omega) (by omega) (by simp)
    rw [List.nil_append] at q1 q2
    refine ⟨edI L V V.length 0, ?_, (Bounded_ev hl).bind ?_, (sBounded_ev hl).bind ?_⟩
    · have := edI_len L V V.length 0
      have h2 : V.length * V.length ≤ 13824 * 13824 := Nat.mul_le_mul hV hV
      omega
    · rw [hb]; simp only [Bool.not_true, Bool.false_eq_true, if_false]
      exact e1.bind (q1.ev.bind (.now fun _ => rfl))
    · rw [hb]; simp only [Bool.not_true, Bool.false_eq_true, if_false]
      refine e2.bind ?_
      unfold spec_l7Edges.f
      exact Ev.bind (Ev.one (f := fun k => spec_l7Edges.l3 k k L V 0 []) (g := fun x3 => x3.2.1) q2.ev) (.now fun _ => rfl)
theorem eqIntA2_ev (x : I2) : Ev (fun k => laws_eqIntA2.f k x x) true := by
  have key : Lv (fun k n => laws_eqIntA2.l2 k n 0 x x) (.inr ((), ())) := by
    refine Lv.step (g := fun k n => laws_eqIntA2.s2 k (laws_eqIntA2.l2 k n) 0 x x) ?_ (fun _ _ => rfl)
    simp only [laws_eqIntA2.s2, show decide ((0 : Int) < 2) = true from rfl, if_true, show (0 : Int) ≤ 0 from Int.le_refl 0, show (0 : Int) < 2 by decide, bne_self_eq_false, Bool.false_eq_true, if_false, show W (0 + 1) = 1 from W_id (by omega) (by omega)]
    refine Lv.step (g := fun k n => laws_eqIntA2.s2 k (laws_eqIntA2.l2 k n) 1 x x) ?_ (fun _ _ => rfl)
    simp only [laws_eqIntA2.s2, show decide ((1 : Int) < 2) = true from rfl, if_true, show (0 : Int) ≤ 1 by decide, show (1 : Int) < 2 by decide, bne_self_eq_false, Bool.false_eq_true, if_false, show W (1 + 1) = 2 from W_id (by omega) (by omega)]
    refine Lv.step (g := fun k n => laws_eqIntA2.s2 k (laws_eqIntA2.l2 k n) 2 x x) ?_ (fun _ _ => rfl)
    exact .now fun _ _ => rfl
  unfold laws_eqIntA2.f
  exact key.ev.bind (.now fun _ => rfl)
theorem eqIntA2S_l4 {l : List I2} (hl : l.length ≤ 1000000000) : ∀ (d i : Nat), l.length - i = d → i ≤ l.length → Lv (fun k m => laws_eqIntA2S.l4 k m l l (i : Int)) (.inr ((), ())) := by
  intro d
  induction d with
  | zero =>
    intro i hd hi
    refine Lv.step (g := fun k m => laws_eqIntA2S.s4 k (laws_eqIntA2S.l4 k m) l l (i : Int)) ?_ (fun _ _ => rfl)
    simp only [laws_eqIntA2S.s4, decide_eq_true_eq, if_neg (show ¬ (i : Int) < (l.length : Int) by omega)]
    exact .now fun _ _ => rfl
  | succ d ih =>
    intro i hd hi
    have hi' : i < l.length := by omega
    refine Lv.step (g := fun k m => laws_eqIntA2S.s4 k (laws_eqIntA2S.l4 k m) l l (i : Int)) ?_ (fun _ _ => rfl)
    simp only [laws_eqIntA2S.s4, decide_eq_true_eq, if_pos (show (i : Int) < (l.length : Int) by omega), if_pos (Int.natCast_nonneg _), wrN hi' (show l.length ≤ 4611686018427387903 by omega)]
    refine Lv.bind (eqIntA2_ev _) ?_
    simp only [Bool.not_true, Bool.false_eq_true, if_false]
    exact ih (i + 1) (by omega) (by omega)
theorem eqIntA2S_ev {l : List I2} (hl : l.length ≤ 1000000000) : Ev (fun k => laws_eqIntA2S.f k l l) true := by
  simp only [laws_eqIntA2S.f, ne_iff, ne_eq, not_true_eq_false, if_false]
  exact (eqIntA2S_l4 hl l.length 0 (by omega) (by omega)).ev.bind (.now fun _ => rfl)
def mk2 (j : Nat) : I2 := ⟨1 + 2 * (j : Int), 1 + 2 * (j : Int) + 1⟩
theorem markIntA2S_l5 {n : Nat} (hl : n ≤ 1000000000) {i : Nat} (hi : i < n) (o : List I2) (ho : o.length = n) :
    Lv (fun k m => laws_markIntA2S.l5 k m (1 + 2 * (i : Int)) (i : Int) 0 o) (((), 1 + 2 * ((i + 1 : Nat) : Int), (i : Int), ()), (o.set i (mk2 i), ())) := by
  have w1 : W (1 + 2 * (i : Int) + 1) = 1 + 2 * (i : Int) + 1 := W_id (by omega) (by omega)
  have w2 : W (1 + 2 * (i : Int) + 1 + 1) = 1 + 2 * ((i + 1 : Nat) : Int) := by rw [W_id (by omega) (by omega)]; omega
  have gs : ∀ x : I2, (o.set i x).getD i default = x := fun x => by simp [List.getD_eq_getElem?_getD, show i < o.length by omega]
  have hs : ∀ x y : I2, (o.set i x).set i y = o.set i y := fun x y => List.set_set ..
  refine Lv.step (g := fun k m => laws_markIntA2S.s5 k (laws_markIntA2S.l5 k m) (1 + 2 * (i : Int)) (i : Int) 0 o) ?_ (fun _ _ => rfl)
  simp only [laws_markIntA2S.s5, show decide ((0 : Int) < 2) = true from rfl, if_true, if_pos (Int.natCast_nonneg _), if_pos (show (i : Int) < (o.length : Int) by omega), Int.toNat_natCast, if_pos (show i < o.length by omega), w1, show W (0 + 1) = 1 from W_id (by omega) (by omega)]
  refine Lv.step (g := fun k m => laws_markIntA2S.s5 k (laws_markIntA2S.l5 k m) (1 + 2 * (i : Int) + 1) (i : Int) 1 (o.set i ⟨1 + 2 * (i : Int), (o.getD i default).y⟩)) ?_ (fun _ _ => rfl)
  simp only [laws_markIntA2S.s5, show decide ((1 : Int) < 2) = true from rfl, if_true, if_pos (Int.natCast_nonneg _), List.length_set, if_pos (show (i : Int) < (o.length : Int) by omega), Int.toNat_natCast, if_pos (show i < o.length by omega), w2, show W (1 + 1) = 2 from W_id (by omega) (by omega), show ¬ ((1 : Int) = 0) by decide, if_false, gs, hs]
  refine Lv.step (g := fun k m => laws_markIntA2S.s5 k (laws_markIntA2S.l5 k m) (1 + 2 * ((i + 1 : Nat) : Int)) (i : Int) 2 (o.set i ⟨1 + 2 * (i : Int), 1 + 2 * (i : Int) + 1⟩)) ?_ (fun _ _ => rfl)
  exact .now fun _ _ => rfl
theorem markIntA2S_l2 {n : Nat} (hl : n ≤ 1000000000) : ∀ (d i : Nat), n - i = d → i ≤ n → ∀ o : List I2, o.length = n → (∀ j : Nat, j < i → o[j]? = some (mk2 j)) →
    ∃ r : List I2, r.length = n ∧ (∀ j : Nat, j < n → r[j]? = some (mk2 j)) ∧ Lv (fun k m => laws_markIntA2S.l2 k m (1 + 2 * (i : Int)) (i : Int) o) (((), 1 + 2 * (n : Int), ()), (r, ())) := by
  intro d
  induction d with
  | zero =>
    intro i hd hi o ho hj
    obtain rfl : i = n := by omega
    refine ⟨o, ho, hj, ?_⟩
    refine Lv.step (g := fun k m => laws_markIntA2S.s2 k (laws_markIntA2S.l2 k m) (1 + 2 * (i : Int)) (i : Int) o) ?_ (fun _ _ => rfl)
    simp only [laws_markIntA2S.s2, decide_eq_true_eq, if_neg (show ¬ (i : Int) < (o.length : Int) by omega)]
    exact .now fun _ _ => rfl
  | succ d ih =>
    intro i hd hi o ho hj
    have hi' : i < o.length := by omega
    have w0 : W ((i : Int) + 1) = ((i + 1 : Nat) : Int) := by rw [W_id (by omega) (by omega)]; omega
    obtain ⟨r, h1, h2, h3⟩ := ih (i + 1) (by omega) (by omega) (o.set i (mk2 i)) (by simp [ho]) (fun j hj' => by
      rw [List.getElem?_set]
      by_cases c : i = j
      · subst c; rw [if_pos rfl, if_pos hi']
      · rw [if_neg c]; exact hj j (by omega))
    refine ⟨r, h1, h2, Lv.step (g := fun k m => laws_markIntA2S.s2 k (laws_markIntA2S.l2 k m) (1 + 2 * (i : Int)) (i : Int) o) ?_ (fun _ _ => rfl)⟩
    simp only [laws_markIntA2S.s2, decide_eq_true_eq, if_pos (show (i : Int) < (o.length : Int) by omega)]
    refine Lv.bind (markIntA2S_l5 hl (show i < n by omega) o ho).ev ?_
    simp only [w0]
    exact h3
theorem markIntA2S_ev {l : List I2} (hl : l.length ≤ 1000000000) : ∃ r : List I2, r.length = l.length ∧ (∀ j : Nat, j < l.length → r[j]? = some (mk2 j)) ∧ Ev (fun k => laws_markIntA2S.f k l 1) (1 + 2 * (l.length : Int), r) := by
  obtain ⟨r, h1, h2, h3⟩ := markIntA2S_l2 hl l.length 0 (by omega) (by omega) l rfl (fun j hj => absurd hj (Nat.not_lt_zero j))
  refine ⟨r, h1, h2, ?_⟩
  simp only [laws_markIntA2S.f]
  exact h3.ev.one (g := fun x1 => (x1.1.2.1, x1.2.1))
theorem heldIntA2S_l5 {r : List I2} {n : Nat} (hn : r.length = n) (hl : n ≤ 1000000000) {i : Nat} (hi : i < n) (h : r[i]? = some (mk2 i)) :
    Lv (fun k m => laws_heldIntA2S.l5 k m r (1 + 2 * (i : Int)) (i : Int) 0) (.inr ((r, 1 + 2 * ((i + 1 : Nat) : Int), (i : Int), ()), ())) := by
  have w1 : W (1 + 2 * (i : Int) + 1) = 1 + 2 * (i : Int) + 1 := W_id (by omega) (by omega)
  have w2 : W (1 + 2 * (i : Int) + 1 + 1) = 1 + 2 * ((i + 1 : Nat) : Int) := by rw [W_id (by omega) (by omega)]; omega
  have e : rd r (i : Int) = mk2 i := by simp [rd, List.getD_eq_getElem?_getD, h]
  refine Lv.step (g := fun k m => laws_heldIntA2S.s5 k (laws_heldIntA2S.l5 k m) r (1 + 2 * (i : Int)) (i : Int) 0) ?_ (fun _ _ => rfl)
  simp only [laws_heldIntA2S.s5, show decide ((0 : Int) < 2) = true from rfl, if_true, if_pos (Int.natCast_nonneg _), if_pos (show (i : Int) < (r.length : Int) by omega), e, mk2, bne_self_eq_false, Bool.false_eq_true, if_false, w1, show W (0 + 1) = 1 from W_id (by omega) (by omega)]
  refine Lv.step (g := fun k m => laws_heldIntA2S.s5 k (laws_heldIntA2S.l5 k m) r (1 + 2 * (i : Int) + 1) (i : Int) 1) ?_ (fun _ _ => rfl)
  simp only [laws_heldIntA2S.s5, show decide ((1 : Int) < 2) = true from rfl, if_true, if_pos (Int.natCast_nonneg _), if_pos (show (i : Int) < (r.length : Int) by omega), e, mk2, show ¬ ((1 : Int) = 0) by decide, bne_self_eq_false, Bool.false_eq_true, if_false, w2, show W (1 + 1) = 2 from W_id (by omega) (by omega)]
  refine Lv.step (g := fun k m => laws_heldIntA2S.s5 k (laws_heldIntA2S.l5 k m) r (1 + 2 * ((i + 1 : Nat) : Int)) (i : Int) 2) ?_ (fun _ _ => rfl)
  exact .now fun _ _ => rfl
theorem heldIntA2S_l2 {r : List I2} {n : Nat} (hn : r.length = n) (hl : n ≤ 1000000000) (h : ∀ j : Nat, j < n → r[j]? = some (mk2 j)) : ∀ (d i : Nat), n - i = d → i ≤ n → Lv (fun k m => laws_heldIntA2S.l2 k m r (1 + 2 * (i : Int)) (i : Int)) (.inr ((1 + 2 * (n : Int), ()), ())) := by
  intro d
  induction d with
  | zero =>
    intro i hd hi
    obtain rfl : i = n := by omega
    refine Lv.step (g := fun k m => laws_heldIntA2S.s2 k (laws_heldIntA2S.l2 k m) r (1 + 2 * (i : Int)) (i : Int)) ?_ (fun _ _ => rfl)
    simp only [laws_heldIntA2S.s2, decide_eq_true_eq, if_neg (show ¬ (i : Int) < (r.length : Int) by omega)]
    exact .now fun _ _ => rfl
  | succ d ih =>
    intro i hd hi
    have hi' : i < n := by omega
    have w0 : W ((i : Int) + 1) = ((i + 1 : Nat) : Int) := by rw [W_id (by omega) (by omega)]; omega
    refine Lv.step (g := fun k m => laws_heldIntA2S.s2 k (laws_heldIntA2S.l2 k m) r (1 + 2 * (i : Int)) (i : Int)) ?_ (fun _ _ => rfl)
    simp only [laws_heldIntA2S.s2, decide_eq_true_eq, if_pos (show (i : Int) < (r.length : Int) by omega)]
    refine Lv.bind (heldIntA2S_l5 hn hl hi' (h i hi')).ev ?_
    simp only [w0]
    exact ih (i + 1) (by omega) (by omega)
theorem heldIntA2S_ev {r : List I2} {n : Nat} (hn : r.length = n) (hl : n ≤ 1000000000) (h : ∀ j : Nat, j < n → r[j]? = some (mk2 j)) : Ev (fun k => laws_heldIntA2S.f k r 1) (1 + 2 * (n : Int)) := by
  simp only [laws_heldIntA2S.f]
  exact (heldIntA2S_l2 hn hl h n 0 (by omega) (by omega)).ev.bind (.now fun _ => rfl)
end Rk
open Rk
theorem FnExactEdgesOf_pure {L : List S4} (hM : L.length ≤ 9223372036854775807) : ∃ k, laws_FnExactEdgesOf.f k L = some true := by
  have key : Ev (fun k => laws_FnExactEdgesOf.f k L) true := by
    have e : W (1048576 - (L.length : Int)) = 1048576 - L.length := W_id (by omega) (by omega)
    simp only [laws_FnExactEdgesOf.f, laws_szPlaneS.f, decide_eq_true_eq, e]
    by_cases c : 1048576 - (L.length : Int) < 0
    · simp only [if_pos c, Option.bind_some, show (-1 : Int) < 0 by omega, if_true]; exact .now fun _ => rfl
    · simp only [if_neg c, Option.bind_some]
      have hl : L.length ≤ 2097152 := by omega
      obtain ⟨v, hv, s2, s1⟩ := EdgesOf_same hl
      obtain ⟨r, m1⟩ := markPlaneS_ev hl
      obtain ⟨u, u1, u2, m2⟩ := markIntA2S_ev hv
      have hd := heldIntA2S_ev u1 hv u2
      have ei := eqIntA2S_ev hv
      refine (toPlaneS_ev hl).bind (s1.bind ((toPlaneS_ev hl).bind (s2.bind (ei.bind ?_))))
      simp only [Bool.not_true, Bool.false_eq_true, if_false]
      refine (toPlaneS_ev hl).bind ((eqPlaneS_ev hl).bind ?_)
      simp only [Bool.not_true, Bool.false_eq_true, if_false]
      refine m1.bind ?_
      simp only [if_neg (show ¬ 1 + 4 * (L.length : Int) < 0 by omega)]
      refine ei.bind ?_
      simp only [Bool.not_true, Bool.false_eq_true, if_false]
      refine m2.bind (hd.bind ?_)
      simp only [if_neg (show ¬ 1 + 2 * (v.length : Int) < 0 by omega), bne_self_eq_false, Bool.false_eq_true, if_false]
      refine (toPlaneS_ev hl).bind (s2.bind (ei.bind ?_))
      simp only [Bool.not_true, Bool.false_eq_true, if_false]
      refine hd.bind (.now fun _ => ?_)
      simp only [if_neg (show ¬ 1 + 2 * (v.length : Int) < 0 by omega), bne_self_eq_false, Bool.false_eq_true, if_false]
  obtain ⟨K, h⟩ := key
  exact ⟨K, h K (Nat.le_refl _)⟩
end Go.Proofs.Ytlkcpldohlemcaa.Q
