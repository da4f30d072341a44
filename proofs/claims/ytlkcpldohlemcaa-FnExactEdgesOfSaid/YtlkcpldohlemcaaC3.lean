/- The corners of a cell: the loops of both programs. -/
import Derived.Test.YtlkcpldohlemcaaC2
import Derived.Test.YtlkcpldohlemcaaX0
namespace Go.Proofs.Ytlkcpldohlemcaa.Q
open Go Go.RowKit Go.Proofs Go.Proofs.Ytlkcpldohlemcaa.Ev Go.Proofs.Ytlkcpldohlemcaa.G
set_option linter.unusedSimpArgs false
set_option linter.unusedVariables false

/-- what a row has come to: more members of a kind, so many at most. -/
structure Acc (T : List S4) (Q : S4 → Prop) (n : Nat) (out : List S4) : Prop where
  mem : ∀ x, x ∈ out ↔ x ∈ T ∨ Q x
  ok : ∀ x ∈ out, okSpot x = true
  len : out.length ≤ T.length + n
theorem Acc.none {T : List S4} (h : ∀ x ∈ T, okSpot x = true) {Q : S4 → Prop} (hq : ∀ x, ¬ Q x) (n : Nat) : Acc T Q n T := ⟨fun x => ⟨.inl, fun h => h.resolve_right (hq x)⟩, h, by omega⟩
theorem Acc.trans {T U V : List S4} {Q R S : S4 → Prop} {n m : Nat} (h : Acc T Q n U) (h2 : Acc U R m V) (hs : ∀ x, S x ↔ Q x ∨ R x) {k : Nat} (hk : n + m ≤ k) : Acc T S k V :=
  ⟨fun x => by rw [h2.mem, h.mem, hs, or_assoc], h2.ok, by have := h.len; have := h2.len; omega⟩
theorem Acc.congr {T U : List S4} {Q R : S4 → Prop} {n m : Nat} (h : Acc T Q n U) (hq : ∀ x, R x ↔ Q x) (hn : n ≤ m) : Acc T R m U := ⟨fun x => by rw [h.mem, hq], h.ok, by have := h.len; omega⟩
theorem Acc.one {T : List S4} {s : S4} (h : ∀ x ∈ T, okSpot x = true) (hs : okSpot s = true) : Acc T (fun x => some s = some x) 1 (T ++ [s]) :=
  ⟨fun x => by simp [eq_comm], fun x hx => by
    rcases List.mem_append.1 hx with hx | hx
    · exact h x hx
    · rw [List.mem_singleton] at hx; subst hx; exact hs, by simp⟩
theorem ex_ge {f : Nat → Prop} {i n : Nat} (h : i < n) : (∃ j, i ≤ j ∧ j < n ∧ f j) ↔ f i ∨ ∃ j, i + 1 ≤ j ∧ j < n ∧ f j := by
  constructor
  · rintro ⟨j, h1, h2, h3⟩
    by_cases e : i = j
    · subst e; exact .inl h3
    · exact .inr ⟨j, by omega, h2, h3⟩
  · rintro (h3 | ⟨j, h1, h2, h3⟩)
    · exact ⟨i, Nat.le_refl _, h, h3⟩
    · exact ⟨j, by omega, h2, h3⟩
section
variable {L : List S4} (hL : ∀ p ∈ L, okp p = true) (hl : L.length ≤ 24)
include hL hl
omit hL in
theorem corners_l9 {R x12 x21 : List S4} {x13 x14 x22 x23 : Int} {p q : S4} (hR : ∀ p ∈ R, okp p = true) (hr : R.length ≤ 24) (hp : okp p = true) (hq : okp q = true) : ∀ (d k : Nat), R.length - k = d → k ≤ R.length → ∀ T : List S4, (∀ x ∈ T, okSpot x = true) → T.length + d ≤ 100000 →
    ∃ out, Acc T (fun x => ∃ m, k ≤ m ∧ m < R.length ∧ pt3 L p q (rd R (m : Nat)) = some x) d out ∧ Lv (fun K n => impl_corners.l9 K n L x12 x13 x14 x21 x22 x23 R (R.length : Int) (k : Int) p q T) ((L, (), (), x12, x13, x14, x21, x22, x23, ()), (p, out, ())) := by
  intro d
  induction d with
  | zero =>
    intro k hd hk T hT _
    refine ⟨T, .none hT (fun x ⟨m, h1, h2, _⟩ => by omega) _, Lv.step (g := fun K n => impl_corners.s9 K (impl_corners.l9 K n) L x12 x13 x14 x21 x22 x23 R (R.length : Int) (k : Int) p q T) ?_ (fun _ _ => rfl)⟩
    simp only [impl_corners.s9, decide_eq_true_eq, if_neg (show ¬ (k : Int) < (R.length : Int) by omega)]
    exact .now fun _ _ => rfl
  | succ d ih =>
    intro k hd hk T hT hTl
    have hk' : k < R.length := by omega
    have or : okp (rd R (k : Int)) = true := by rw [rd_in hk']; exact hR _ (List.getElem_mem _)
    have w : W ((k : Int) + 1) = ((k + 1 : Nat) : Int) := wrn hk' (by omega)
    have key : ∃ out, Acc T (fun x => ∃ m, k ≤ m ∧ m < R.length ∧ pt3 L p q (rd R (m : Nat)) = some x) (d + 1) out ∧ Lv (fun K n => impl_corners.s9 K (impl_corners.l9 K n) L x12 x13 x14 x21 x22 x23 R (R.length : Int) (k : Int) p q T) ((L, (), (), x12, x13, x14, x21, x22, x23, ()), (p, out, ())) := by
      simp only [impl_corners.s9, decide_eq_true_eq, if_pos (show (k : Int) < (R.length : Int) by omega), if_pos (Int.natCast_nonneg _), w]
      have skip : pt3 L p q (rd R (k : Nat)) = none → ∃ out, Acc T (fun x => ∃ m, k ≤ m ∧ m < R.length ∧ pt3 L p q (rd R (m : Nat)) = some x) (d + 1) out ∧ Lv (fun K n => impl_corners.l9 K n L x12 x13 x14 x21 x22 x23 R (R.length : Int) ((k + 1 : Nat) : Int) p q T) ((L, (), (), x12, x13, x14, x21, x22, x23, ()), (p, out, ())) := fun hn => by
        obtain ⟨out, h1, h2⟩ := ih (k + 1) (by omega) (by omega) T hT (by omega)
        refine ⟨out, h1.congr (fun x => ?_) (by omega), h2⟩
        rw [ex_ge hk', hn]; simp
      by_cases c : D3 p q (rd R (k : Int)) = 0
      · have hn : pt3 L p q (rd R (k : Nat)) = none := by unfold pt3; rw [if_pos c]
        obtain ⟨out, h1, h2⟩ := skip hn
        refine ⟨out, h1, Lv.bind (meet3_ev (okp_bd4 hp) (okp_bd4 hq) (okp_bd4 or)) ?_⟩
        simp only [if_pos c, Bool.false_eq_true, if_false]; exact h2
      · by_cases c2 : mn (mS p q (rd R (k : Int))) 1 L ≥ 0
        · have hs : pt3 L p q (rd R (k : Nat)) = some (mS p q (rd R (k : Int))) := by unfold pt3; rw [if_neg c, if_pos c2]
          have os := pt3_ok hp hq or hs
          have h0 := Acc.one hT os
          obtain ⟨out, h1, h2⟩ := ih (k + 1) (by omega) (by omega) _ h0.ok (by simp; omega)
          refine ⟨out, h0.trans h1 (fun x => ?_) (by omega), Lv.bind (meet3_ev (okp_bd4 hp) (okp_bd4 hq) (okp_bd4 or)) ?_⟩
          · rw [ex_ge hk', hs]
          · simp only [if_neg c, if_true]
            refine Lv.bind (inCell_ev _ (by omega)) ?_
            simp only [if_pos c2, if_true, lt47_ok (show T.length + ([mS p q (rd R (k : Int))] : List S4).length < 2199023255552 by simp; omega)]
            exact h2
        · have hn : pt3 L p q (rd R (k : Nat)) = none := by unfold pt3; rw [if_neg c, if_neg c2]
          obtain ⟨out, h1, h2⟩ := skip hn
          refine ⟨out, h1, Lv.bind (meet3_ev (okp_bd4 hp) (okp_bd4 hq) (okp_bd4 or)) ?_⟩
          simp only [if_neg c, if_true]
          refine Lv.bind (inCell_ev _ (by omega)) ?_
          simp only [if_neg c2]; exact h2
    obtain ⟨out, h1, h2⟩ := key
    exact ⟨out, h1, h2.step (fun _ _ => rfl)⟩
theorem corners_l6 {i : Nat} (hi : i < L.length) {x13 : Int} : ∀ (d j : Nat), i - j = d → j ≤ i → ∀ T : List S4, (∀ x ∈ T, okSpot x = true) → T.length + d * 24 ≤ 100000 →
    ∃ out, Acc T (fun x => ∃ m, j ≤ m ∧ m < i ∧ ∃ k, k < m ∧ pt3 L (rd L (i : Nat)) (rd L (m : Nat)) (rd L (k : Nat)) = some x) (d * 24) out ∧ Lv (fun K n => impl_corners.l6 K n L L x13 (i : Int) (L.take i) ((L.take i).length : Int) (j : Int) (rd L (i : Int)) T) ((L, (), L, x13, (i : Int), ()), (out, ())) := by
  have til : (L.take i).length = i := by rw [List.length_take]; omega
  have oi := rd_okL hL hi
  intro d
  induction d with
  | zero =>
    intro j hd hj T hT _
    refine ⟨T, .none hT (fun x ⟨m, h1, h2, _⟩ => by omega) _, Lv.step (g := fun K n => impl_corners.s6 K (impl_corners.l6 K n) L L x13 (i : Int) (L.take i) ((L.take i).length : Int) (j : Int) (rd L (i : Int)) T) ?_ (fun _ _ => rfl)⟩
    simp only [impl_corners.s6, decide_eq_true_eq, til, if_neg (show ¬ (j : Int) < (i : Int) by omega)]
    exact .now fun _ _ => rfl
  | succ d ih =>
    intro j hd hj T hT hTl
    have hj' : j < i := by omega
    have oj := rd_okL hL (show j < L.length by omega)
    have w : W ((j : Int) + 1) = ((j + 1 : Nat) : Int) := by rw [W_id (by omega) (by omega)]; omega
    have tjl : (L.take j).length = j := by rw [List.length_take]; omega
    have e : rd (L.take i) (j : Int) = rd L (j : Int) := rd_take hj'
    obtain ⟨o1, a1, l1⟩ := corners_l9 hl (R := L.take j) (x12 := L) (x21 := L.take i) (x13 := x13) (x14 := (i : Int)) (x22 := ((L.take i).length : Int)) (x23 := (j : Int)) (p := rd L (i : Int)) (q := rd L (j : Int)) (fun p hp => hL p (List.mem_of_mem_take hp)) (by omega) oi oj j 0 (by omega) (by omega) T hT (by omega)
    have h24 : o1.length + d * 24 ≤ 100000 := by have := a1.len; omega
    obtain ⟨o2, a2, l2⟩ := ih (j + 1) (by omega) (by omega) o1 a1.ok h24
    refine ⟨o2, a1.trans a2 (fun x => ?_) (by omega), ?_⟩
    · rw [ex_ge hj']
      refine or_congr ⟨fun ⟨k, h1, h2⟩ => ⟨k, by omega, by rw [tjl]; exact h1, by rw [rd_take h1]; exact h2⟩, fun ⟨k, _, h1, h2⟩ => ?_⟩ Iff.rfl
      rw [tjl] at h1; rw [rd_take h1] at h2; exact ⟨k, h1, h2⟩
    · refine Lv.step (g := fun K n => impl_corners.s6 K (impl_corners.l6 K n) L L x13 (i : Int) (L.take i) ((L.take i).length : Int) (j : Int) (rd L (i : Int)) T) ?_ (fun _ _ => rfl)
      simp only [impl_corners.s6, decide_eq_true_eq, til, if_pos (show (j : Int) < (i : Int) by omega), if_pos (Int.natCast_nonneg _), if_pos (show (j : Int) ≤ (L.length : Int) by omega), e, Int.toNat_natCast, w]
      simp only [til] at l1
      refine Lv.bind l1.ev ?_
      simp only [til] at l2
      simp only [w]
      exact l2
theorem corners_l3 : ∀ (d i : Nat), L.length - i = d → i ≤ L.length → ∀ T : List S4, (∀ x ∈ T, okSpot x = true) → T.length + d * 576 ≤ 100000 →
    ∃ out, Acc T (fun x => ∃ m, i ≤ m ∧ m < L.length ∧ ∃ j, j < m ∧ ∃ k, k < j ∧ pt3 L (rd L (m : Nat)) (rd L (j : Nat)) (rd L (k : Nat)) = some x) (d * 576) out ∧ Lv (fun K n => impl_corners.l3 K n L L (L.length : Int) (i : Int) T) (((), ()), (out, ())) := by
  intro d
  induction d with
  | zero =>
    intro i hd hi T hT _
    refine ⟨T, .none hT (fun x ⟨m, h1, h2, _⟩ => by omega) _, Lv.step (g := fun K n => impl_corners.s3 K (impl_corners.l3 K n) L L (L.length : Int) (i : Int) T) ?_ (fun _ _ => rfl)⟩
    simp only [impl_corners.s3, decide_eq_true_eq, if_neg (show ¬ (i : Int) < (L.length : Int) by omega)]
    exact .now fun _ _ => rfl
  | succ d ih =>
    intro i hd hi T hT hTl
    have hi' : i < L.length := by omega
    have w : W ((i : Int) + 1) = ((i + 1 : Nat) : Int) := by rw [W_id (by omega) (by omega)]; omega
    obtain ⟨o1, a1, l1⟩ := corners_l6 hL hl hi' (x13 := (L.length : Int)) i 0 (by omega) (by omega) T hT (by omega)
    have h24 : o1.length + d * 576 ≤ 100000 := by have := a1.len; omega
    obtain ⟨o2, a2, l2⟩ := ih (i + 1) (by omega) (by omega) o1 a1.ok h24
    refine ⟨o2, a1.trans a2 (fun x => ?_) (by omega), ?_⟩
    · rw [ex_ge hi']
      refine or_congr ⟨fun ⟨j, h1, k, h2, h3⟩ => ⟨j, by omega, h1, k, h2, h3⟩, fun ⟨j, _, h1, k, h2, h3⟩ => ⟨j, h1, k, h2, h3⟩⟩ Iff.rfl
    · refine Lv.step (g := fun K n => impl_corners.s3 K (impl_corners.l3 K n) L L (L.length : Int) (i : Int) T) ?_ (fun _ _ => rfl)
      simp only [impl_corners.s3, decide_eq_true_eq, if_pos (show (i : Int) < (L.length : Int) by omega), if_pos (Int.natCast_nonneg _), if_pos (show (i : Int) ≤ (L.length : Int) by omega), Int.toNat_natCast, w]
      refine Lv.bind l1.ev ?_
      simp only [w]
      exact l2
end
end Go.Proofs.Ytlkcpldohlemcaa.Q
