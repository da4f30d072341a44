/- FnDets: for whatever planes are drawn. -/
import Derived.Test.YtlkcpldohlemcaaL1
namespace Go.Proofs.Ytlkcpldohlemcaa.Q
open Go Go.RowKit Go.Proofs Go.Proofs.Ytlkcpldohlemcaa.Ev Go.Proofs.Ytlkcpldohlemcaa.G
set_option linter.unusedSimpArgs false
set_option linter.unusedVariables false

theorem DrawDet4_ex {a : List Int} (h : a.length ≤ 1099511627776) : Ex (fun k => spec_DrawDet4.f k a) (fun _ => True) := by
  unfold spec_DrawDet4.f
  refine Ex.bind (l1New_ex h) fun t1 h1 => ?_
  refine Ex.bind (l3DrawAny_ex h1) fun t2 h2 => ?_
  refine Ex.bind (l3DrawAny_ex h2) fun t3 h3 => ?_
  refine Ex.bind (l3DrawAny_ex h3) fun t4 h4 => ?_
  exact Ex.bind (l3DrawAny_ex h4) fun t5 h5 => Ex.now trivial
theorem cx_tk0 {p q : S4} (h : okp p = false ∨ okp q = false) : cx (v3 (tk p)) (v3 (tk q)) = z3 := by
  have e : ∀ p : S4, okp p = false → v3 (tk p) = z3 := fun p h => by unfold tk; rw [if_neg (by simp [h])]; rfl
  rcases h with h | h
  · rw [e p h]; simp [cx, z3]
  · rw [e q h]; simp [cx, z3]
theorem z3_eq (c : S3) : ((c.x == 0) && ((c.y == 0) && (c.z == 0))) = decide (c = z3) := by
  rw [Bool.eq_iff_iff, decide_eq_true_iff, S3_ext]; simp [z3]
theorem FnDets_pure {a : List Int} (_ : a.length ≤ 9223372036854775807 ∧ ∀ x ∈ a, 0 ≤ x ∧ x ≤ 255) : ∃ k, laws_FnDets.f k a = some true := by
  have key : Ev (fun k => laws_FnDets.f k a) true := by
    unfold laws_FnDets.f
    refine Ev.bind (a := decide ((a.length : Int) > 1048576)) (.now fun _ => rfl) ?_
    simp only [decide_eq_true_eq]
    by_cases hb : (a.length : Int) > 1048576
    · simp only [if_pos hb]; exact .now fun _ => rfl
    · simp only [if_neg hb]
      obtain ⟨⟨p, q, r, s, u⟩, hd, _⟩ := DrawDet4_ex (a := a) (by omega)
      refine Ev.bind hd ?_
      have bd4 := D4_bd (tk_bd p) (tk_bd q) (tk_bd r) (tk_bd s)
      have bd3 := dt_bd (tk_bd p).1 (tk_bd q).1 (tk_bd r).1
      have e4 := D4_sw (tk p) (tk q) (tk r) (tk s)
      have e4' := D4_sw3 (tk p) (tk q) (tk r) (tk s)
      have e3 : D3 (tk q) (tk p) (tk r) = -D3 (tk p) (tk q) (tk r) := dt_sw _ _ _
      have e3' : D3 (tk q) (tk r) (tk p) = D3 (tk p) (tk q) (tk r) := dt_rot _ _ _
      have w4 : W (0 - D4 (tk p) (tk q) (tk r) (tk s)) = -D4 (tk p) (tk q) (tk r) (tk s) := W_neg (by omega)
      have w3 : W (0 - D3 (tk p) (tk q) (tk r)) = -D3 (tk p) (tk q) (tk r) := W_neg (by unfold D3; omega)
      refine Ev.bind (Det4_ev p q r s) ?_
      refine Ev.bind (Det3_ev p q r) ?_
      refine Ev.bind (Cross_ev p q) ?_
      refine Ev.bind (sDet4_ev p q r s) ?_
      simp only [bne_self_eq_false, Bool.false_eq_true, if_false]
      refine Ev.bind (sDet3_ev p q r) ?_
      simp only [bne_self_eq_false, Bool.false_eq_true, if_false]
      refine Ev.bind (Det4_ev q p r s) ?_
      simp only [e4, w4, bne_self_eq_false, Bool.false_eq_true, if_false]
      refine Ev.bind (Det4_ev p q s r) ?_
      simp only [e4', bne_self_eq_false, Bool.false_eq_true, if_false]
      refine Ev.bind (Det3_ev q p r) ?_
      simp only [e3, w3, bne_self_eq_false, Bool.false_eq_true, if_false]
      refine Ev.bind (Det3_ev q r p) ?_
      simp only [e3', bne_self_eq_false, Bool.false_eq_true, if_false]
      simp only [z3_eq]
      refine Ev.bind (spec_PlaneOk_ev p) ?_
      cases hp : okp p
      · simp only [Bool.not_false, if_true, cx_tk0 (p := p) (q := q) (.inl hp), decide_true]; exact .now fun _ => rfl
      simp only [Bool.not_true, Bool.false_eq_true, if_false]
      refine Ev.bind (spec_PlaneOk_ev q) ?_
      cases hq : okp q
      · simp only [Bool.not_false, if_true, cx_tk0 (p := p) (q := q) (.inr hq), decide_true]; exact .now fun _ => rfl
      simp only [Bool.not_true, Bool.false_eq_true, if_false]
      refine Ev.bind (Rank2_ev hp hq) ?_
      have i1 : ip (v3 p) (cx (v3 p) (v3 q)) = 0 := by simp only [ip, cx]; grind
      have i2 : ip (v3 q) (cx (v3 p) (v3 q)) = 0 := by simp only [ip, cx]; grind
      have j1 : W (W (W (p.a * (cx (v3 p) (v3 q)).x) + W (p.b * (cx (v3 p) (v3 q)).y)) + W (p.c * (cx (v3 p) (v3 q)).z)) = 0 := by
        simp only [W_add_l, W_add_r]
        rw [show p.a * (cx (v3 p) (v3 q)).x + p.b * (cx (v3 p) (v3 q)).y + p.c * (cx (v3 p) (v3 q)).z = 0 from i1]; exact W_0
      have j2 : W (W (W (q.a * (cx (v3 p) (v3 q)).x) + W (q.b * (cx (v3 p) (v3 q)).y)) + W (q.c * (cx (v3 p) (v3 q)).z)) = 0 := by
        simp only [W_add_l, W_add_r]
        rw [show q.a * (cx (v3 p) (v3 q)).x + q.b * (cx (v3 p) (v3 q)).y + q.c * (cx (v3 p) (v3 q)).z = 0 from i2]; exact W_0
      simp only [tk_ok hp, tk_ok hq, j1, j2, beq_self_eq_true, if_true]
      refine Ev.bind (Parallel_ev hp hq) ?_
      have c1 : (decide (cx (v3 p) (v3 q) = z3) == (par (v3 p) (v3 q) != 0)) = true := by
        have := par_iff hp hq
        rw [beq_iff_eq, Bool.eq_iff_iff, decide_eq_true_iff, ne_iff]; exact this.symm
      have c2 : (((if cx (v3 p) (v3 q) = z3 then (1 : Int) else 2) == 1) == decide (cx (v3 p) (v3 q) = z3)) = true := by
        by_cases c : cx (v3 p) (v3 q) = z3
        · simp [c]
        · simp [c]
      simp only [c1, c2, if_true, eq_iff]
      by_cases h3 : D3 p q (tk r) = 0
      · simp only [if_pos h3]; exact .now fun _ => rfl
      · simp only [if_neg h3]
        exact Ev.bind (Rank3_ev (r := r) hp hq (by rw [tk_ok hp, tk_ok hq]; exact h3)) (.now fun _ => rfl)
  obtain ⟨K, h⟩ := key
  exact ⟨K, h K (Nat.le_refl _)⟩
end Go.Proofs.Ytlkcpldohlemcaa.Q
