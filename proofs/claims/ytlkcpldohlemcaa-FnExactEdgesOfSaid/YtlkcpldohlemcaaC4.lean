/- The corners of a cell: the reference's rows; both say the same. -/
import Derived.Test.YtlkcpldohlemcaaC3
namespace Go.Proofs.Ytlkcpldohlemcaa.Q
open Go Go.RowKit Go.Proofs Go.Proofs.Ytlkcpldohlemcaa.Ev Go.Proofs.Ytlkcpldohlemcaa.G
set_option linter.unusedSimpArgs false
set_option linter.unusedVariables false

theorem l7Put_l2 {l : List S4} (hl : OrdS l) (hn : l.length ≤ 1000000) {s : S4} (hs : okSpot s = true) : ∀ i : Nat, i ≤ l.length → (∀ j (h : j < l.length), i ≤ j → cfSpot s l[j] < 0) →
    Lx (fun k m => spec_l7Put.l2 k m l (i : Int) s) (fun r => (r = .inl ((l, ()), ()) ∧ s ∈ l) ∨ ∃ j : Nat, j ≤ l.length ∧ r = .inr ((l, (), (j : Int), ()), (s, ())) ∧ (∀ a (h : a < l.length), a < j → cfSpot l[a] s < 0) ∧ ∀ a (h : a < l.length), j ≤ a → cfSpot s l[a] < 0) := by
  intro i
  induction i with
  | zero =>
    intro _ hup
    refine Lx.step (g := fun k m => spec_l7Put.s2 k (spec_l7Put.l2 k m) l ((0 : Nat) : Int) s) ?_ (fun _ _ => rfl)
    exact Lx.now (v := .inr ((l, (), ((0 : Nat) : Int), ()), (s, ()))) (fun _ _ => by simp [spec_l7Put.s2]) (.inr ⟨0, Nat.zero_le _, rfl, fun a _ h => absurd h (Nat.not_lt_zero _), fun a h _ => hup a h (Nat.zero_le _)⟩)
  | succ i ih =>
    intro hi hup
    have hi' : i < l.length := by omega
    have w : W (((i + 1 : Nat) : Int) - 1) = (i : Int) := by rw [W_id (by omega) (by omega)]; omega
    have ol := hl.ok _ (List.getElem_mem hi')
    have e : rd l (i : Int) = l[i] := by simp [rd, List.getD_eq_getElem?_getD, hi']
    refine Lx.step (g := fun k m => spec_l7Put.s2 k (spec_l7Put.l2 k m) l ((i + 1 : Nat) : Int) s) ?_ (fun _ _ => rfl)
    simp only [spec_l7Put.s2, decide_eq_true_eq, if_pos (show ((i + 1 : Nat) : Int) > 0 by omega), w, if_pos (Int.natCast_nonneg _), if_pos (show (i : Int) < (l.length : Int) by omega), e]
    refine Lx.bind ((sCmpSpot_ev ol hs).ex (R := fun c => c = cfSpot l[i] s) rfl) fun c hc => ?_
    subst hc
    by_cases c : cfSpot l[i] s ≥ 0
    · simp only [if_pos c]
      by_cases ce : l[i] = s
      · subst ce
        simp only [beq_self_eq_true, Bool.and_self, if_true]
        exact Lx.now (fun _ _ => rfl) (.inl ⟨rfl, List.getElem_mem _⟩)
      · have hb : ¬ ((l[i].a == s.a && (l[i].b == s.b && (l[i].c == s.c && l[i].d == s.d))) = true) := fun h => ce (by
          simp only [Bool.and_eq_true, beq_iff_eq] at h
          obtain ⟨h1, h2, h3, h4⟩ := h
          generalize l[i] = t at *
          cases t; cases s; simp_all)
        simp only [if_neg hb]
        refine ih (by omega) fun j h hj => ?_
        by_cases e2 : j = i
        · subst e2
          exact Decidable.byContradiction fun hneg => ce (cmpSpot_ok.tot _ _ ol hs (by omega) hneg)
        · exact hup j h (by omega)
    · simp only [if_neg c]
      refine Lx.now (fun _ _ => rfl) (.inr ⟨i + 1, hi, rfl, fun a h ha => ?_, fun a h ha => hup a h ha⟩)
      by_cases e2 : a = i
      · subst e2; omega
      · exact cmpSpot_ok.tr _ _ _ (hl.ok _ (List.getElem_mem h)) ol hs (List.pairwise_iff_getElem.1 hl.up a i h hi' (by omega)) (by omega)
theorem l7Put_ex {l : List S4} (hl : OrdS l) (hn : l.length ≤ 1000000) {s : S4} (hs : okSpot s = true) : Ex (fun k => spec_l7Put.f k l s) (fun v => OrdS v ∧ Acc l (fun x => some s = some x) 1 v) := by
  unfold spec_l7Put.f
  refine Ex.bind (l7Put_l2 hl hn hs l.length (Nat.le_refl _) fun j h hj => by omega).ex fun r hr => ?_
  rcases hr with ⟨rfl, hm⟩ | ⟨j, hj, rfl, h1, h2⟩
  · refine Ex.now ⟨hl, ⟨fun x => ⟨.inl, fun h => ?_⟩, hl.ok, Nat.le_succ _⟩⟩
    rcases h with h | h
    · exact h
    · cases h; exact hm
  · have tl : (l.take j).length = j := by rw [List.length_take]; omega
    have dl : (l.drop j).length = l.length - j := List.length_drop ..
    simp only [if_pos (Int.natCast_nonneg _), if_pos (show (j : Int) ≤ (l.length : Int) by omega), Int.toNat_natCast, List.nil_append, List.length_nil, List.length_append, List.length_singleton, tl, dl]
    rw [if_pos (lt47_ok (by omega)), if_pos (lt47_ok (by omega)), if_pos (lt47_ok (by omega))]
    have mem : ∀ x, x ∈ l.take j ++ [s] ++ l.drop j ↔ x ∈ l ∨ s = x := fun x => by
      have : x ∈ l ↔ x ∈ l.take j ∨ x ∈ l.drop j := by
        conv => lhs; rw [← List.take_append_drop j l]
        exact List.mem_append
      rw [this]
      simp only [List.mem_append, List.mem_singleton]
      constructor
      · rintro ((h | h) | h)
        · exact .inl (.inl h)
        · exact .inr h.symm
        · exact .inl (.inr h)
      · rintro ((h | h) | h)
        · exact .inl (.inl h)
        · exact .inr h
        · exact .inl (.inr h.symm)
    have okv : ∀ x ∈ l.take j ++ [s] ++ l.drop j, okSpot x = true := fun x hx => by
      rcases (mem x).1 hx with h | h
      · exact hl.ok x h
      · subst h; exact hs
    have gt : ∀ x ∈ l.take j, cfSpot x s < 0 := fun x hx => by
      obtain ⟨a, ha, rfl⟩ := List.getElem_of_mem hx
      rw [tl] at ha
      rw [List.getElem_take]; exact h1 a (by omega) ha
    have gd : ∀ x ∈ l.drop j, cfSpot s x < 0 := fun x hx => by
      obtain ⟨a, ha, rfl⟩ := List.getElem_of_mem hx
      rw [dl] at ha
      rw [List.getElem_drop]; exact h2 _ (by omega) (by omega)
    refine Ex.now ⟨⟨okv, ?_⟩, ⟨fun x => by rw [mem]; simp, okv, by simp only [List.length_append, List.length_singleton, tl, dl]; omega⟩⟩
    rw [List.pairwise_append]
    have hp := hl.up
    rw [← List.take_append_drop j l, List.pairwise_append] at hp
    refine ⟨?_, hp.2.1, fun x hx y hy => ?_⟩
    · rw [List.pairwise_append]
      refine ⟨hp.1, List.pairwise_singleton _ _, fun x hx y hy => ?_⟩
      rw [List.mem_singleton] at hy; subst hy; exact gt x hx
    · rcases List.mem_append.1 hx with hx | hx
      · exact hp.2.2 x hx y hy
      · rw [List.mem_singleton] at hx; subst hx; exact gd y hy
section
variable {L : List S4} (hL : ∀ p ∈ L, okp p = true) (hl : L.length ≤ 24)
include hL hl
theorem sCorners_l10 {i j : Nat} (hi : i < L.length) (hj : j < L.length) : ∀ (d k : Nat), L.length - k = d → k ≤ L.length → ∀ T : List S4, OrdS T → T.length + d ≤ 100000 →
    ∃ out, OrdS out ∧ Acc T (fun x => ∃ m, k ≤ m ∧ m < L.length ∧ pt3 L (rd L (i : Nat)) (rd L (j : Nat)) (rd L (m : Nat)) = some x) d out ∧ Lv (fun K n => spec_l7Corners.l10 K n L T (L.length : Int) (i : Int) (j : Int) (k : Int)) ((L, out, (L.length : Int), (i : Int), (j : Int), ()), ()) := by
  have oi := rd_okL hL hi; have oj := rd_okL hL hj
  intro d
  induction d with
  | zero =>
    intro k hd hk T hT _
    refine ⟨T, hT, .none hT.ok (fun x ⟨m, h1, h2, _⟩ => by omega) _, Lv.step (g := fun K n => spec_l7Corners.s10 K (spec_l7Corners.l10 K n) L T (L.length : Int) (i : Int) (j : Int) (k : Int)) ?_ (fun _ _ => rfl)⟩
    simp only [spec_l7Corners.s10, decide_eq_true_eq, if_neg (show ¬ (k : Int) < (L.length : Int) by omega)]
    exact .now fun _ _ => rfl
  | succ d ih =>
    intro k hd hk T hT hTl
    have hk' : k < L.length := by omega
    have ok := rd_okL hL hk'
    have w : W ((k : Int) + 1) = ((k + 1 : Nat) : Int) := wrn hk' (by omega)
    have key : ∃ out, OrdS out ∧ Acc T (fun x => ∃ m, k ≤ m ∧ m < L.length ∧ pt3 L (rd L (i : Nat)) (rd L (j : Nat)) (rd L (m : Nat)) = some x) (d + 1) out ∧ Lv (fun K n => spec_l7Corners.s10 K (spec_l7Corners.l10 K n) L T (L.length : Int) (i : Int) (j : Int) (k : Int)) ((L, out, (L.length : Int), (i : Int), (j : Int), ()), ()) := by
      simp only [spec_l7Corners.s10, decide_eq_true_eq, if_pos (show (k : Int) < (L.length : Int) by omega), if_pos (show (i : Int) < (L.length : Int) by omega), if_pos (show (j : Int) < (L.length : Int) by omega), if_pos (Int.natCast_nonneg _), w]
      have skip : pt3 L (rd L (i : Nat)) (rd L (j : Nat)) (rd L (k : Nat)) = none → ∃ out, OrdS out ∧ Acc T (fun x => ∃ m, k ≤ m ∧ m < L.length ∧ pt3 L (rd L (i : Nat)) (rd L (j : Nat)) (rd L (m : Nat)) = some x) (d + 1) out ∧ Lv (fun K n => spec_l7Corners.l10 K n L T (L.length : Int) (i : Int) (j : Int) ((k + 1 : Nat) : Int)) ((L, out, (L.length : Int), (i : Int), (j : Int), ()), ()) := fun hn => by
        obtain ⟨out, h0, h1, h2⟩ := ih (k + 1) (by omega) (by omega) T hT (by omega)
        refine ⟨out, h0, h1.congr (fun x => ?_) (by omega), h2⟩
        rw [ex_ge hk', hn]; simp
      by_cases c : D3 (rd L (i : Int)) (rd L (j : Int)) (rd L (k : Int)) = 0
      · have hn : pt3 L (rd L (i : Nat)) (rd L (j : Nat)) (rd L (k : Nat)) = none := by unfold pt3; rw [if_pos c]
        obtain ⟨out, h0, h1, h2⟩ := skip hn
        refine ⟨out, h0, h1, Lv.bind (l5Meet_ev (okp_bd4 oi) (okp_bd4 oj) (okp_bd4 ok)) ?_⟩
        simp only [if_pos c, Bool.false_eq_true, if_false]; exact h2
      · by_cases c2 : mn (mS (rd L (i : Int)) (rd L (j : Int)) (rd L (k : Int))) 1 L ≥ 0
        · have hs : pt3 L (rd L (i : Nat)) (rd L (j : Nat)) (rd L (k : Nat)) = some (mS (rd L (i : Int)) (rd L (j : Int)) (rd L (k : Int))) := by unfold pt3; rw [if_neg c, if_pos c2]
          have os := pt3_ok oi oj ok hs
          obtain ⟨o1, e1, q1, a1⟩ := l7Put_ex hT (by omega) os
          have hlen : o1.length + d ≤ 100000 := by have := a1.len; omega
          obtain ⟨out, h0, h1, h2⟩ := ih (k + 1) (by omega) (by omega) _ q1 hlen
          refine ⟨out, h0, a1.trans h1 (fun x => ?_) (by omega), Lv.bind (l5Meet_ev (okp_bd4 oi) (okp_bd4 oj) (okp_bd4 ok)) ?_⟩
          · rw [ex_ge hk', hs]
          · simp only [if_neg c, if_true]
            refine Lv.bind (l7In_ev _ (by omega)) ?_
            simp only [if_pos c2]
            exact Lv.bind e1 h2
        · have hn : pt3 L (rd L (i : Nat)) (rd L (j : Nat)) (rd L (k : Nat)) = none := by unfold pt3; rw [if_neg c, if_neg c2]
          obtain ⟨out, h0, h1, h2⟩ := skip hn
          refine ⟨out, h0, h1, Lv.bind (l5Meet_ev (okp_bd4 oi) (okp_bd4 oj) (okp_bd4 ok)) ?_⟩
          simp only [if_neg c, if_true]
          refine Lv.bind (l7In_ev _ (by omega)) ?_
          simp only [if_neg c2]; exact h2
    obtain ⟨out, h0, h1, h2⟩ := key
    exact ⟨out, h0, h1, h2.step (fun _ _ => rfl)⟩
theorem sCorners_l7 {i : Nat} (hi : i < L.length) : ∀ (d j : Nat), L.length - j = d → j ≤ L.length → ∀ T : List S4, OrdS T → T.length + d * 24 ≤ 100000 →
    ∃ out, OrdS out ∧ Acc T (fun x => ∃ m, j ≤ m ∧ m < L.length ∧ ∃ k, m < k ∧ k < L.length ∧ pt3 L (rd L (i : Nat)) (rd L (m : Nat)) (rd L (k : Nat)) = some x) (d * 24) out ∧ Lv (fun K n => spec_l7Corners.l7 K n L T (L.length : Int) (i : Int) (j : Int)) ((L, out, (L.length : Int), (i : Int), ()), ()) := by
  intro d
  induction d with
  | zero =>
    intro j hd hj T hT _
    refine ⟨T, hT, .none hT.ok (fun x ⟨m, h1, h2, _⟩ => by omega) _, Lv.step (g := fun K n => spec_l7Corners.s7 K (spec_l7Corners.l7 K n) L T (L.length : Int) (i : Int) (j : Int)) ?_ (fun _ _ => rfl)⟩
    simp only [spec_l7Corners.s7, decide_eq_true_eq, if_neg (show ¬ (j : Int) < (L.length : Int) by omega)]
    exact .now fun _ _ => rfl
  | succ d ih =>
    intro j hd hj T hT hTl
    have hj' : j < L.length := by omega
    have w : W ((j : Int) + 1) = ((j + 1 : Nat) : Int) := wrn hj' (by omega)
    obtain ⟨o1, q1, a1, l1⟩ := sCorners_l10 hL hl hi hj' (L.length - (j + 1)) (j + 1) rfl (by omega) T hT (by omega)
    have h24 : o1.length + d * 24 ≤ 100000 := by have := a1.len; omega
    obtain ⟨o2, q2, a2, l2⟩ := ih (j + 1) (by omega) (by omega) o1 q1 h24
    refine ⟨o2, q2, a1.trans a2 (fun x => ?_) (by omega), ?_⟩
    · rw [ex_ge hj']
      exact or_congr ⟨fun ⟨k, h1, h2, h3⟩ => ⟨k, by omega, h2, h3⟩, fun ⟨k, h1, h2, h3⟩ => ⟨k, by omega, h2, h3⟩⟩ Iff.rfl
    · refine Lv.step (g := fun K n => spec_l7Corners.s7 K (spec_l7Corners.l7 K n) L T (L.length : Int) (i : Int) (j : Int)) ?_ (fun _ _ => rfl)
      simp only [spec_l7Corners.s7, decide_eq_true_eq, if_pos (show (j : Int) < (L.length : Int) by omega), w]
      refine Lv.bind l1.ev ?_
      simp only [w]
      exact l2
theorem sCorners_l4 : ∀ (d i : Nat), L.length - i = d → i ≤ L.length → ∀ T : List S4, OrdS T → T.length + d * 576 ≤ 100000 →
    ∃ out, OrdS out ∧ Acc T (fun x => ∃ m, i ≤ m ∧ m < L.length ∧ ∃ j, m < j ∧ j < L.length ∧ ∃ k, j < k ∧ k < L.length ∧ pt3 L (rd L (m : Nat)) (rd L (j : Nat)) (rd L (k : Nat)) = some x) (d * 576) out ∧ Lv (fun K n => spec_l7Corners.l4 K n L T (L.length : Int) (i : Int)) ((out, ()), ()) := by
  intro d
  induction d with
  | zero =>
    intro i hd hi T hT _
    refine ⟨T, hT, .none hT.ok (fun x ⟨m, h1, h2, _⟩ => by omega) _, Lv.step (g := fun K n => spec_l7Corners.s4 K (spec_l7Corners.l4 K n) L T (L.length : Int) (i : Int)) ?_ (fun _ _ => rfl)⟩
    simp only [spec_l7Corners.s4, decide_eq_true_eq, if_neg (show ¬ (i : Int) < (L.length : Int) by omega)]
    exact .now fun _ _ => rfl
  | succ d ih =>
    intro i hd hi T hT hTl
    have hi' : i < L.length := by omega
    have w : W ((i : Int) + 1) = ((i + 1 : Nat) : Int) := wrn hi' (by omega)
    obtain ⟨o1, q1, a1, l1⟩ := sCorners_l7 hL hl hi' (L.length - (i + 1)) (i + 1) rfl (by omega) T hT (by omega)
    have h24 : o1.length + d * 576 ≤ 100000 := by have := a1.len; omega
    obtain ⟨o2, q2, a2, l2⟩ := ih (i + 1) (by omega) (by omega) o1 q1 h24
    refine ⟨o2, q2, a1.trans a2 (fun x => ?_) (by omega), ?_⟩
    · rw [ex_ge hi']
      exact or_congr ⟨fun ⟨j, h1, h2, h3⟩ => ⟨j, by omega, h2, h3⟩, fun ⟨j, h1, h2, h3⟩ => ⟨j, by omega, h2, h3⟩⟩ Iff.rfl
    · refine Lv.step (g := fun K n => spec_l7Corners.s4 K (spec_l7Corners.l4 K n) L T (L.length : Int) (i : Int)) ?_ (fun _ _ => rfl)
      simp only [spec_l7Corners.s4, decide_eq_true_eq, if_pos (show (i : Int) < (L.length : Int) by omega), w]
      refine Lv.bind l1.ev ?_
      simp only [w]
      exact l2
/-- the corners -/
theorem corners_same : ∃ V, OrdS V ∧ V.length ≤ 13824 ∧ (∀ x, x ∈ V ↔ ∃ i j k, i < j ∧ j < k ∧ k < L.length ∧ pt3 L (rd L (i : Nat)) (rd L (j : Nat)) (rd L (k : Nat)) = some x) ∧ Ev (fun k => impl_corners.f k L) V ∧ Ev (fun k => spec_l7Corners.f k L) V := by
  obtain ⟨T, a1, l1⟩ := corners_l3 hL hl L.length 0 (by omega) (by omega) [] (fun x hx => by cases hx) (by simp; omega)
  obtain ⟨V, q2, a2, l2⟩ := sCorners_l4 hL hl L.length 0 (by omega) (by omega) [] ⟨fun x hx => (by cases hx), List.Pairwise.nil⟩ (by simp; omega)
  have hT : T.length ≤ 13824 := by have := a1.len; rw [List.length_nil] at this; omega
  have hV : V.length ≤ 13824 := by have := a2.len; rw [List.length_nil] at this; omega
  have mV : ∀ x, x ∈ V ↔ ∃ i j k, i < j ∧ j < k ∧ k < L.length ∧ pt3 L (rd L (i : Nat)) (rd L (j : Nat)) (rd L (k : Nat)) = some x := fun x => by
    rw [a2.mem]
    constructor
    · rintro (h | ⟨i, _, h1, j, h2, h3, k, h4, h5, h6⟩)
      · cases h
      · exact ⟨i, j, k, h2, h4, h5, h6⟩
    · rintro ⟨i, j, k, h1, h2, h3, h4⟩
      exact .inr ⟨i, Nat.zero_le _, by omega, j, h1, by omega, k, h2, h3, h4⟩
  have mT : ∀ x, x ∈ T ↔ ∃ i j k, i < j ∧ j < k ∧ k < L.length ∧ pt3 L (rd L (i : Nat)) (rd L (j : Nat)) (rd L (k : Nat)) = some x := fun x => by
    rw [a1.mem]
    constructor
    · rintro (h | ⟨i, _, h1, j, h2, k, h3, h4⟩)
      · cases h
      · exact ⟨k, j, i, h3, h2, h1, by rw [pt3_rev]; exact h4⟩
    · rintro ⟨i, j, k, h1, h2, h3, h4⟩
      exact .inr ⟨k, Nat.zero_le _, h3, j, h2, i, h1, by rw [pt3_rev]; exact h4⟩
  have o2 : OrdS (compV (srt cfSpot T)) := comp_ord cmpSpot_ok (fun x hx => a1.ok x (srt_mem.1 hx)) (srt_up cmpSpot_ok a1.ok)
  have e : compV (srt cfSpot T) = V := ord_eq cmpSpot_ok o2 q2 fun x => by rw [comp_mem, srt_mem, mT, mV]
  refine ⟨V, q2, hV, mV, ?_, ?_⟩
  · unfold impl_corners.f
    refine l1.ev.bind ?_
    have h1 : T.all okSpot = true := List.all_eq_true.2 a1.ok
    have h2 : (srt cfSpot T).length = T.length := List.length_mergeSort _
    simp only [slices_SortFunc181.f, slices_Compact184.f, slices_Clip183.f, sortV, compF, h1, lt47_ok (show T.length < 2199023255552 by omega), Bool.and_self, if_true, Option.bind_some, h2, e]
    exact .now fun _ => rfl
  · unfold spec_l7Corners.f
    exact l2.ev.bind (.now fun _ => rfl)
end
end Go.Proofs.Ytlkcpldohlemcaa.Q
