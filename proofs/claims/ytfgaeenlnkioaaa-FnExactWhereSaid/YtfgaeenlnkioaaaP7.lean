/- Nodes, depth, around, where of a right tree, by both programs; the laws. -/
import Derived.Test.YtfgaeenlnkioaaaP6
namespace Go.Proofs.Ytfgaeenlnkioaaa.Q
open Go Go.RowKit Go.Proofs Go.Proofs.Ytfgaeenlnkioaaa.Ev Go.Proofs.Ytfgaeenlnkioaaa.G
set_option linter.unusedSimpArgs false
set_option linter.unusedVariables false

theorem look_cases {b : Bool} {p : S4} {l : List Tree} {L : List S4} (h : look (.mk b p l) L = true) : l = [] ∨ ∃ x y, l = [x, y] ∧ look x (L ++ [p]) = true ∧ look y (L ++ [flp p]) = true := by
  match l with
  | [] => exact .inl rfl
  | [x] => simp [look] at h
  | [x, y] =>
    simp only [look, Bool.and_eq_true] at h
    exact .inr ⟨x, y, rfl, h.1.2, h.2⟩
  | x :: y :: z :: r => simp [look] at h
theorem sok_look {T : Tree} (h : sok T = true) : look T [] = true ∧ nn T ≤ 300 := by
  simpa [sok] using h
theorem nodes_ok {T : Tree} (hT : TW T) : ∀ L, look T L = true → nn T ≤ 300 → Ev (fun k => impl_Solid_nodes.f k T) (nn T : Int) := by
  induction hT with
  | mk b p l hl h ih =>
    intro L hL hn
    refine Ev.succ (g := fun k => impl_Solid_nodes.fs k (impl_Solid_nodes.f k) (.mk b p l)) ?_ (fun k => impl_Solid_nodes.fS k _)
    rcases look_cases hL with rfl | ⟨x, y, rfl, h1, h2⟩
    · simp only [impl_Solid_nodes.fs, isLeaf_f, T1_eq, Option.bind_some, Tree.kids, List.length_nil, Int.natCast_zero, beq_self_eq_true, if_true, nn]
      exact .now fun _ => rfl
    · have r0 : rd [x, y] 0 = x := rfl
      have r1 : rd [x, y] 1 = y := rfl
      have en : nn (.mk b p [x, y]) = 1 + (nn x + nn y) := by simp [nn, nnL]
      rw [en] at hn ⊢
      have e1 := ih x (by simp) _ h1 (by omega)
      have e2 := ih y (by simp) _ h2 (by omega)
      simp only [impl_Solid_nodes.fs, isLeaf_f, T1_eq, Option.bind_some, eq_iff, Tree.kids, List.length_cons, List.length_nil, show ((0 + 1 + 1 : Nat) : Int) = 2 from rfl, show ¬ ((2 : Int) = 0) by omega, if_false, if_pos (show (0 : Int) < 2 by omega), if_pos (show (1 : Int) < 2 by omega), Nat.le_refl, Nat.zero_le, if_true, r0, r1]
      refine e1.bind ?_
      have := e2.one (g := fun t3 => W (W (1 + (nn x : Int)) + t3))
      rw [show W (W (1 + (nn x : Int)) + (nn y : Int)) = ((1 + (nn x + nn y) : Nat) : Int) from by rw [W_add_l, W_id (by omega) (by omega)]; omega] at this
      exact this
theorem depth_ok {T : Tree} (hT : TW T) : ∀ L, look T L = true → ∃ D : Int, Ev (fun k => spec_l8Depth.f k T) D ∧ Ev (fun k => impl_Solid_depth.f k T) D := by
  induction hT with
  | mk b p l hl h ih =>
    intro L hL
    rcases look_cases hL with rfl | ⟨x, y, rfl, h1, h2⟩
    · refine ⟨0, Ev.succ (g := fun k => spec_l8Depth.fs k (spec_l8Depth.f k) (.mk b p [])) ?_ (fun k => spec_l8Depth.fS k _), Ev.succ (g := fun k => impl_Solid_depth.fs k (impl_Solid_depth.f k) (.mk b p [])) ?_ (fun k => impl_Solid_depth.fS k _)⟩
      · simp only [spec_l8Depth.fs, leaf_f, T1_eq, Option.bind_some, Tree.kids, List.length_nil, Int.natCast_zero, beq_self_eq_true, if_true]; exact .now fun _ => rfl
      · simp only [impl_Solid_depth.fs, isLeaf_f, T1_eq, Option.bind_some, Tree.kids, List.length_nil, Int.natCast_zero, beq_self_eq_true, if_true]; exact .now fun _ => rfl
    · have r0 : rd [x, y] 0 = x := rfl
      have r1 : rd [x, y] 1 = y := rfl
      obtain ⟨D1, s1, i1⟩ := ih x (by simp) _ h1
      obtain ⟨D2, s2, i2⟩ := ih y (by simp) _ h2
      refine ⟨W (1 + (if D2 > D1 then D2 else D1)), Ev.succ (g := fun k => spec_l8Depth.fs k (spec_l8Depth.f k) (.mk b p [x, y])) ?_ (fun k => spec_l8Depth.fS k _), Ev.succ (g := fun k => impl_Solid_depth.fs k (impl_Solid_depth.f k) (.mk b p [x, y])) ?_ (fun k => impl_Solid_depth.fS k _)⟩
      · simp only [spec_l8Depth.fs, leaf_f, T1_eq, Option.bind_some, eq_iff, decide_eq_true_eq, Tree.kids, List.length_cons, List.length_nil, show ((0 + 1 + 1 : Nat) : Int) = 2 from rfl, show ¬ ((2 : Int) = 0) by omega, if_false, if_pos (show (0 : Int) < 2 by omega), if_pos (show (1 : Int) < 2 by omega), Nat.le_refl, Nat.zero_le, if_true, r0, r1]
        refine s1.bind (s2.bind (.now fun _ => ?_))
        by_cases c : D2 > D1
        · rw [if_pos c, if_pos c, Int.add_comm]
        · rw [if_neg c, if_neg c, Int.add_comm]
      · simp only [impl_Solid_depth.fs, isLeaf_f, T1_eq, Option.bind_some, eq_iff, decide_eq_true_eq, Tree.kids, List.length_cons, List.length_nil, show ((0 + 1 + 1 : Nat) : Int) = 2 from rfl, show ¬ ((2 : Int) = 0) by omega, if_false, if_pos (show (0 : Int) < 2 by omega), if_pos (show (1 : Int) < 2 by omega), Nat.le_refl, Nat.zero_le, if_true, r0, r1]
        exact i1.bind (i2.bind (.now fun _ => rfl))

/-! ### spots -/
theorem gcd_le' {x y : Int} {N : Nat} (hx : x.natAbs ≤ N) (hy : y.natAbs ≤ N) : Nat.gcd x.natAbs y.natAbs ≤ N := by
  by_cases z : x.natAbs = 0
  · rw [z, Nat.gcd_zero_left]; exact hy
  · exact Nat.le_trans (Nat.gcd_le_left _ (by omega)) hx
def spk (s : S4) : Bool := decide ((1 ≤ s.d ∧ s.d ≤ 1000000000) ∧ (-1000000000 ≤ s.a ∧ s.a ≤ 1000000000) ∧ (-1000000000 ≤ s.b ∧ s.b ≤ 1000000000) ∧ (-1000000000 ≤ s.c ∧ s.c ≤ 1000000000)) && (((Nat.gcd (Nat.gcd s.a.natAbs s.b.natAbs) (Nat.gcd s.c.natAbs s.d.natAbs) : Nat) : Int) == 1)
theorem spec_SpotOk_ev (s : S4) : Ev (fun k => spec_SpotOk.f k s) (spk s) := by
  simp only [spec_SpotOk.f, l1In_f, Option.bind_some, decide_eq_true_eq, spk]
  by_cases hd : 1 ≤ s.d ∧ s.d ≤ 1000000000
  · by_cases ha : -1000000000 ≤ s.a ∧ s.a ≤ 1000000000
    · by_cases hb : -1000000000 ≤ s.b ∧ s.b ≤ 1000000000
      · by_cases hc : -1000000000 ≤ s.c ∧ s.c ≤ 1000000000
        · simp only [hd, ha, hb, hc, and_self, if_true, decide_true, Bool.true_and]
          have la := gcd_le' (x := s.a) (y := s.b) (N := 1000000000) (by omega) (by omega)
          have lc := gcd_le' (x := s.c) (y := s.d) (N := 1000000000) (by omega) (by omega)
          refine (l3Gcd_ev (by omega) (by omega)).bind ((l3Gcd_ev (by omega) (by omega)).bind ?_)
          have := l3Gcd_ev (a := ((Nat.gcd s.a.natAbs s.b.natAbs : Nat) : Int)) (b := ((Nat.gcd s.c.natAbs s.d.natAbs : Nat) : Int)) (by omega) (by omega)
          simp only [Int.natAbs_natCast] at this
          exact this.one
        · simp only [hd, ha, hb, hc, and_self, if_true, if_false, and_false, decide_false, Bool.false_and]; exact .now fun _ => rfl
      · simp only [hd, ha, hb, and_self, if_true, if_false, and_false, false_and, decide_false, Bool.false_and]; exact .now fun _ => rfl
    · simp only [hd, ha, and_self, if_true, if_false, and_false, false_and, decide_false, Bool.false_and]; exact .now fun _ => rfl
  · simp only [hd, if_false, false_and, decide_false, Bool.false_and]; exact .now fun _ => rfl
theorem spot_step {x : S3} {s : S4} {i : Int} {r : impl_SpotOk.B4} (h0 : 0 ≤ i) (h3 : i < 3) (h : (-1000000000 ≤ sel [x.x, x.y, x.z] i ∧ sel [x.x, x.y, x.z] i ≤ 1000000000) → Lv (fun k n => impl_SpotOk.l4 k n x (W (i + 1)) s) r) (h2 : ¬ (-1000000000 ≤ sel [x.x, x.y, x.z] i ∧ sel [x.x, x.y, x.z] i ≤ 1000000000) → r = .inl ((false, ()), ())) : Lv (fun k n => impl_SpotOk.l4 k n x i s) r := by
  refine Lv.step (g := fun k n => impl_SpotOk.s4 k (impl_SpotOk.l4 k n) x i s) ?_ (fun _ _ => rfl)
  simp only [impl_SpotOk.s4, decide_eq_true_eq, if_pos h3, if_pos h0, inRange_f, Option.bind_some]
  by_cases c : -1000000000 ≤ sel [x.x, x.y, x.z] i ∧ sel [x.x, x.y, x.z] i ≤ 1000000000
  · simp only [c, and_self, decide_true, Bool.not_true, Bool.false_eq_true, if_false]; exact h c
  · rw [h2 c]; simp only [c, decide_false, Bool.not_false, if_true]; exact .now fun _ _ => rfl
theorem impl_SpotOk_ev (s : S4) : Ev (fun k => impl_SpotOk.f k s) (spk s) := by
  simp only [impl_SpotOk.f, inRange_f, Option.bind_some, spk]
  by_cases hd : 1 ≤ s.d ∧ s.d ≤ 1000000000
  · simp only [hd, and_self, decide_true, Bool.not_true, Bool.false_eq_true, if_false, true_and]
    have L : Lv (fun k n => impl_SpotOk.l4 k n ⟨s.a, s.b, s.c⟩ 0 s) (if (-1000000000 ≤ s.a ∧ s.a ≤ 1000000000) ∧ (-1000000000 ≤ s.b ∧ s.b ≤ 1000000000) ∧ (-1000000000 ≤ s.c ∧ s.c ≤ 1000000000) then .inr (((), ()), (s, ())) else .inl ((false, ()), ())) := by
      have q0 : sel [s.a, s.b, s.c] 0 = s.a := rfl
      have q1 : sel [s.a, s.b, s.c] 1 = s.b := rfl
      have q2 : sel [s.a, s.b, s.c] 2 = s.c := rfl
      refine spot_step (by omega) (by omega) (fun ha => ?_) (fun ha => ?_)
      · rw [show W (0 + 1) = 1 from W_1]
        refine spot_step (by omega) (by omega) (fun hb => ?_) (fun hb => ?_)
        · rw [show W (1 + 1) = 2 from W_2]
          refine spot_step (by omega) (by omega) (fun hc => ?_) (fun hc => ?_)
          · rw [show W (2 + 1) = 3 from W_3]
            simp only [q0, q1, q2] at ha hb hc
            rw [if_pos ⟨ha, hb, hc⟩]
            refine Lv.step (g := fun k n => impl_SpotOk.s4 k (impl_SpotOk.l4 k n) ⟨s.a, s.b, s.c⟩ 3 s) ?_ (fun _ _ => rfl)
            exact .now fun k n => by simp [impl_SpotOk.s4]
          · simp only [q2] at hc; rw [if_neg (fun h => hc h.2.2)]
        · simp only [q1] at hb; rw [if_neg (fun h => hb h.2.1)]
      · simp only [q0] at ha; rw [if_neg (fun h => ha h.1)]
    refine L.ev.bind ?_
    by_cases c : (-1000000000 ≤ s.a ∧ s.a ≤ 1000000000) ∧ (-1000000000 ≤ s.b ∧ s.b ≤ 1000000000) ∧ (-1000000000 ≤ s.c ∧ s.c ≤ 1000000000)
    · simp only [if_pos c, c, and_self, decide_true, Bool.true_and]
      exact (divisor4_ev (a := s.a) (b := s.b) (c := s.c) (d := s.d) (by omega) (by omega) (by omega) (by omega)).one
    · simp only [if_neg c, c, decide_false, Bool.false_and]; exact .now fun _ => rfl
  · simp only [hd, decide_false, Bool.not_false, if_true, false_and, Bool.false_and]; exact .now fun _ => rfl
def sd (p s : S4) : Int := sgn (W ((W ((W ((W (p.a * s.a)) + (W (p.b * s.b)))) + (W (p.c * s.c)))) + (W (p.d * s.d))))
theorem l5Side_f (k : Nat) (p s : S4) : spec_l5Side.f k p s = some (sd p s) := by simp only [spec_l5Side.f, l3Sign_f, Option.bind_some, sd]
theorem sideAt_f (k : Nat) (p s : S4) : impl_sideAt.f k p s = some (sd p s) := by simp only [impl_sideAt.f, sign_f, Option.bind_some, sd]
theorem around_ok {T : Tree} (hT : TW T) (s : S4) : ∀ L, look T L = true → ∃ D : Int × Int × Unit, Ev (fun k => spec_l10Around.f k T s) D ∧ Ev (fun k => impl_Solid_around.f k T s) D := by
  induction hT with
  | mk b p l hl h ih =>
    intro L hL
    rcases look_cases hL with rfl | ⟨x, y, rfl, h1, h2⟩
    · refine ⟨if b = true then (1, 0, ()) else (0, 1, ()), Ev.succ (g := fun k => spec_l10Around.fs k (spec_l10Around.f k) (.mk b p []) s) ?_ (fun k => spec_l10Around.fS k _ _), Ev.succ (g := fun k => impl_Solid_around.fs k (impl_Solid_around.f k) (.mk b p []) s) ?_ (fun k => impl_Solid_around.fS k _ _)⟩
      · simp only [spec_l10Around.fs, leaf_f, T1_eq, Option.bind_some, Tree.kids, Tree.inn, List.length_nil, Int.natCast_zero, beq_self_eq_true, if_true]; cases b <;> exact .now fun _ => rfl
      · simp only [impl_Solid_around.fs, isLeaf_f, T1_eq, Option.bind_some, Tree.kids, Tree.inn, List.length_nil, Int.natCast_zero, beq_self_eq_true, if_true]; cases b <;> exact .now fun _ => rfl
    · have r0 : rd [x, y] 0 = x := rfl
      have r1 : rd [x, y] 1 = y := rfl
      obtain ⟨D1, s1, i1⟩ := ih x (by simp) _ h1
      obtain ⟨D2, s2, i2⟩ := ih y (by simp) _ h2
      refine ⟨if sd p s ≥ 0 then (if sd p s ≤ 0 then (W (D1.1 + D2.1), W (D1.2.1 + D2.2.1), ()) else (D1.1, D1.2.1, ())) else (if sd p s ≤ 0 then (W (0 + D2.1), W (0 + D2.2.1), ()) else (0, 0, ())),
        Ev.succ (g := fun k => spec_l10Around.fs k (spec_l10Around.f k) (.mk b p [x, y]) s) ?_ (fun k => spec_l10Around.fS k _ _), Ev.succ (g := fun k => impl_Solid_around.fs k (impl_Solid_around.f k) (.mk b p [x, y]) s) ?_ (fun k => impl_Solid_around.fS k _ _)⟩
      · simp only [spec_l10Around.fs, leaf_f, l5Side_f, T1_eq, Option.bind_some, eq_iff, decide_eq_true_eq, Tree.kids, Tree.p, List.length_cons, List.length_nil, show ((0 + 1 + 1 : Nat) : Int) = 2 from rfl, show ¬ ((2 : Int) = 0) by omega, if_false, if_pos (show (0 : Int) < 2 by omega), if_pos (show (1 : Int) < 2 by omega), Nat.le_refl, Nat.zero_le, if_true, r0, r1]
        by_cases c1 : sd p s ≥ 0
        · by_cases c2 : sd p s ≤ 0
          · simp only [if_pos c1, if_pos c2]; exact s1.bind (s2.bind (.now fun _ => rfl))
          · simp only [if_pos c1, if_neg c2]; exact s1.bind (.now fun _ => rfl)
        · by_cases c2 : sd p s ≤ 0
          · simp only [if_neg c1, if_pos c2]; exact s2.bind (.now fun _ => rfl)
          · simp only [if_neg c1, if_neg c2]; exact .now fun _ => rfl
      · simp only [impl_Solid_around.fs, isLeaf_f, sideAt_f, T1_eq, Option.bind_some, eq_iff, decide_eq_true_eq, Tree.kids, Tree.p, List.length_cons, List.length_nil, show ((0 + 1 + 1 : Nat) : Int) = 2 from rfl, show ¬ ((2 : Int) = 0) by omega, if_false, if_pos (show (0 : Int) < 2 by omega), if_pos (show (1 : Int) < 2 by omega), Nat.le_refl, Nat.zero_le, if_true, r0, r1]
        by_cases c1 : sd p s ≥ 0
        · by_cases c2 : sd p s ≤ 0
          · simp only [if_pos c1, if_pos c2]; exact i1.bind (i2.bind (.now fun _ => rfl))
          · simp only [if_pos c1, if_neg c2]; exact i1.bind (.now fun _ => rfl)
        · by_cases c2 : sd p s ≤ 0
          · simp only [if_neg c1, if_pos c2]; exact i2.bind (.now fun _ => rfl)
          · simp only [if_neg c1, if_neg c2]; exact .now fun _ => rfl

/-! ### the laws -/
/-- both programs say the same of a tree. -/
theorem Around_same {T : Tree} (hT : TW T) (s : S4) : ∃ D : Int × Int × Unit, Ev (fun k => spec_Around.f k T s) D ∧ Ev (fun k => impl_Around.f k T s) D := by
  simp only [spec_Around.f, impl_Around.f, T1_eq]
  cases h : sok T with
  | false =>
    refine ⟨(0, 0, ()), (spec_SolidOk_ev hT).bind (by rw [h]; exact .now fun _ => rfl), (impl_SpotOk_ev s).bind ?_⟩
    cases spk s with
    | false => exact .now fun _ => rfl
    | true => simp only [Bool.not_true, Bool.false_eq_true, if_false]; exact (impl_SolidOk_ev hT).bind (by rw [h]; exact .now fun _ => rfl)
  | true =>
    cases hs : spk s with
    | false =>
      refine ⟨(0, 0, ()), (spec_SolidOk_ev hT).bind ?_, (impl_SpotOk_ev s).bind (by rw [hs]; exact .now fun _ => rfl)⟩
      rw [h]; simp only [Bool.not_true, Bool.false_eq_true, if_false]
      exact (spec_SpotOk_ev s).bind (by rw [hs]; exact .now fun _ => rfl)
    | true =>
      obtain ⟨D, e1, e2⟩ := around_ok hT s [] (sok_look h).1
      refine ⟨(D.1, D.2.1, ()), (spec_SolidOk_ev hT).bind ?_, (impl_SpotOk_ev s).bind ?_⟩
      · rw [h]; simp only [Bool.not_true, Bool.false_eq_true, if_false]
        refine (spec_SpotOk_ev s).bind ?_
        rw [hs]; simp only [Bool.not_true, Bool.false_eq_true, if_false]
        exact e1.one
      · rw [hs]; simp only [Bool.not_true, Bool.false_eq_true, if_false]
        refine (impl_SolidOk_ev hT).bind ?_
        rw [h]; simp only [Bool.not_true, Bool.false_eq_true, if_false]
        exact e2.one
theorem W_ret (k a b : _) : spec_l10Where.f k a b = impl_where.f k a b := rfl
theorem Where_same {T : Tree} (hT : TW T) (s : S4) : ∃ D : Int, Ev (fun k => spec_Where.f k T s) D ∧ Ev (fun k => impl_Where.f k T s) D := by
  simp only [spec_Where.f, impl_Where.f, T1_eq]
  obtain ⟨D, e1, e2⟩ := Around_same hT s
  have w : ∀ k, spec_l10Where.f k D.1 D.2.1 = some (if D.1 = 0 then -1 else if D.2.1 = 0 then 1 else 0) := fun k => by
    simp only [spec_l10Where.f, eq_iff]; split <;> (try split) <;> rfl
  have w2 : ∀ k, impl_where.f k D.1 D.2.1 = some (if D.1 = 0 then -1 else if D.2.1 = 0 then 1 else 0) := w
  exact ⟨_, e1.bind (.now fun k => by rw [w]; rfl), e2.bind (.now fun k => by rw [w2]; rfl)⟩
theorem law_of {T : Tree} (hT : TM T) {R : Nat → Tree → Option Bool} (h : TW T → Ev (fun k => R k T) true) :
    Ev (fun k => (laws_szSolid.f k T 1048576).bind fun t1 => if t1 < 0 then some true else R k T) true := by
  obtain ⟨v, _, e, hw⟩ := sz_ok hT 1048576 (by omega) (by omega)
  refine e.bind ?_
  by_cases c : v < 0
  · simp only [if_pos c]; exact .now fun _ => rfl
  · simp only [if_neg c]; exact h (hw (by omega))
theorem FnExactSolidOk_pure {T : Tree} (hM : TM T) : ∃ k, laws_FnExactSolidOk.f k T = some true := by
  have key : Ev (fun k => laws_FnExactSolidOk.f k T) true := by
    simp only [laws_FnExactSolidOk.f, T1_eq, decide_eq_true_eq]
    refine law_of hM (R := fun k T => _) fun hT => ?_
    refine (to_ok hT).bind ((spec_SolidOk_ev hT).bind ((to_ok hT).bind ((impl_SolidOk_ev hT).bind ?_)))
    simp only [beq_self_eq_true, Bool.not_true, Bool.false_eq_true, if_false]
    exact (to_ok hT).bind ((eq_ok hT).bind (.now fun _ => rfl))
  obtain ⟨K, h⟩ := key
  exact ⟨K, h K (Nat.le_refl _)⟩
theorem FnExactNodesOf_pure {T : Tree} (hM : TM T) : ∃ k, laws_FnExactNodesOf.f k T = some true := by
  have same : TW T → ∃ v : Int, Ev (fun k => spec_NodesOf.f k T) v ∧ Ev (fun k => impl_NodesOf.f k T) v := fun hT => by
    simp only [spec_NodesOf.f, impl_NodesOf.f, T1_eq]
    cases h : sok T with
    | false => exact ⟨0, (spec_SolidOk_ev hT).bind (by rw [h]; exact .now fun _ => rfl), (impl_SolidOk_ev hT).bind (by rw [h]; exact .now fun _ => rfl)⟩
    | true =>
      obtain ⟨h1, h2⟩ := sok_look h
      refine ⟨nn T, (spec_SolidOk_ev hT).bind ?_, (impl_SolidOk_ev hT).bind ?_⟩
      · rw [h]; simp only [Bool.not_true, Bool.false_eq_true, if_false]
        have := (count_ok hT 301 (by omega) (by omega)).one (g := fun t => t)
        rw [show min (nn T : Int) 301 = nn T by omega] at this
        exact this
      · rw [h]; simp only [Bool.not_true, Bool.false_eq_true, if_false]
        exact (nodes_ok hT [] h1 h2).one
  have key : Ev (fun k => laws_FnExactNodesOf.f k T) true := by
    simp only [laws_FnExactNodesOf.f, T1_eq, decide_eq_true_eq]
    refine law_of hM (R := fun k T => _) fun hT => ?_
    obtain ⟨v, e1, e2⟩ := same hT
    refine (to_ok hT).bind (e1.bind ((to_ok hT).bind (e2.bind ?_)))
    simp only [bne_self_eq_false, Bool.false_eq_true, if_false]
    exact (to_ok hT).bind ((eq_ok hT).bind (.now fun _ => rfl))
  obtain ⟨K, h⟩ := key
  exact ⟨K, h K (Nat.le_refl _)⟩
theorem FnExactDepthOf_pure {T : Tree} (hM : TM T) : ∃ k, laws_FnExactDepthOf.f k T = some true := by
  have same : TW T → ∃ v : Int, Ev (fun k => spec_DepthOf.f k T) v ∧ Ev (fun k => impl_DepthOf.f k T) v := fun hT => by
    simp only [spec_DepthOf.f, impl_DepthOf.f, T1_eq]
    cases h : sok T with
    | false => exact ⟨0, (spec_SolidOk_ev hT).bind (by rw [h]; exact .now fun _ => rfl), (impl_SolidOk_ev hT).bind (by rw [h]; exact .now fun _ => rfl)⟩
    | true =>
      obtain ⟨D, d1, d2⟩ := depth_ok hT [] (sok_look h).1
      refine ⟨D, (spec_SolidOk_ev hT).bind ?_, (impl_SolidOk_ev hT).bind ?_⟩
      · rw [h]; simp only [Bool.not_true, Bool.false_eq_true, if_false]; exact d1.one
      · rw [h]; simp only [Bool.not_true, Bool.false_eq_true, if_false]; exact d2.one
  have key : Ev (fun k => laws_FnExactDepthOf.f k T) true := by
    simp only [laws_FnExactDepthOf.f, T1_eq, decide_eq_true_eq]
    refine law_of hM (R := fun k T => _) fun hT => ?_
    obtain ⟨v, e1, e2⟩ := same hT
    refine (to_ok hT).bind (e1.bind ((to_ok hT).bind (e2.bind ?_)))
    simp only [bne_self_eq_false, Bool.false_eq_true, if_false]
    exact (to_ok hT).bind ((eq_ok hT).bind (.now fun _ => rfl))
  obtain ⟨K, h⟩ := key
  exact ⟨K, h K (Nat.le_refl _)⟩
theorem FnExactAround_pure {T : Tree} (hM : TM T) (s : S4) : ∃ k, laws_FnExactAround.f k T s = some true := by
  have same := fun hT => Around_same (T := T) hT s
  have key : Ev (fun k => laws_FnExactAround.f k T s) true := by
    simp only [laws_FnExactAround.f, laws_toSpot.f, T1_eq, decide_eq_true_eq, Option.bind_some]
    refine law_of hM (R := fun k T => _) fun hT => ?_
    obtain ⟨v, e1, e2⟩ := same hT
    refine (to_ok hT).bind (e1.bind ((to_ok hT).bind (e2.bind ?_)))
    simp only [bne_self_eq_false, Bool.false_eq_true, if_false]
    exact (to_ok hT).bind ((eq_ok hT).bind (.now fun _ => rfl))
  obtain ⟨K, h⟩ := key
  exact ⟨K, h K (Nat.le_refl _)⟩
theorem FnExactWhere_pure {T : Tree} (hM : TM T) (s : S4) : ∃ k, laws_FnExactWhere.f k T s = some true := by
  have same := fun hT => Where_same (T := T) hT s
  have key : Ev (fun k => laws_FnExactWhere.f k T s) true := by
    simp only [laws_FnExactWhere.f, laws_toSpot.f, T1_eq, decide_eq_true_eq, Option.bind_some]
    refine law_of hM (R := fun k T => _) fun hT => ?_
    obtain ⟨v, e1, e2⟩ := same hT
    refine (to_ok hT).bind (e1.bind ((to_ok hT).bind (e2.bind ?_)))
    simp only [bne_self_eq_false, Bool.false_eq_true, if_false]
    exact (to_ok hT).bind ((eq_ok hT).bind (.now fun _ => rfl))
  obtain ⟨K, h⟩ := key
  exact ⟨K, h K (Nat.le_refl _)⟩
end Go.Proofs.Ytfgaeenlnkioaaa.Q
