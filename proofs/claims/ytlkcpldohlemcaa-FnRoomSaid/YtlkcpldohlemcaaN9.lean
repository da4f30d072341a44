/- Room on one side; a point on the sides of all; drawn spots. -/
import Derived.Test.YtlkcpldohlemcaaN8
import Derived.Test.YtlkcpldohlemcaaPS
namespace Go.Proofs.Ytlkcpldohlemcaa.Q
open Go Go.RowKit Go.Proofs Go.Proofs.Ytlkcpldohlemcaa.Ev Go.Proofs.Ytlkcpldohlemcaa.G
set_option linter.unusedSimpArgs false
set_option linter.unusedVariables false

theorem rd_snoc_l {L : List S4} {p : S4} {i : Nat} (h : i < L.length) : rd (L ++ [p]) (i : Int) = rd L (i : Int) := by
  simp [rd, List.getD_eq_getElem?_getD, List.getElem?_append_left h]
theorem rd_snoc_r {L : List S4} {p : S4} : rd (L ++ [p]) (L.length : Int) = p := by simp [rd, List.getD_eq_getElem?_getD]
theorem ls_snoc {L : List S4} {p : S4} {v : Nat → Int} (f : S4 → Int) : ls (fun i => v i * f (rd (L ++ [p]) (i : Int))) (List.range (L ++ [p]).length) = ls (fun i => v i * f (rd L (i : Int))) (List.range L.length) + v L.length * f p := by
  rw [List.length_append, List.length_singleton, List.range_succ, ls_app]
  simp only [ls, Int.add_zero]
  rw [rd_snoc_r, ls_congr fun i hi => by rw [rd_snoc_l (List.mem_range.1 hi)]]
structure Part (L : List S4) (v : Nat → Int) (w : Int) (p : S4) : Prop where
  nn : ∀ i, i < L.length → 0 ≤ v i
  wn : 0 ≤ w
  ne : w ≠ 0 ∨ ∃ i, i < L.length ∧ v i ≠ 0
  a : ls (wA L v) (List.range L.length) + w * p.a = 0
  b : ls (wB L v) (List.range L.length) + w * p.b = 0
  c : ls (wC L v) (List.range L.length) + w * p.c = 0
  d : ls (wD L v) (List.range L.length) + w * p.d ≤ 0
theorem Full.part {L : List S4} {p : S4} {v : Nat → Int} (h : Full (L ++ [p]) v) : Part L v (v L.length) p where
  nn := fun i hi => h.nn i (by simp; omega)
  wn := h.nn _ (by simp)
  ne := by
    obtain ⟨i, hi, hv⟩ := h.ne
    by_cases c : i < L.length
    · exact .inr ⟨i, c, hv⟩
    · have : i = L.length := by simp at hi; omega
      subst this; exact .inl hv
  a := by have := h.nul.a; unfold wA at this; rw [ls_snoc (fun s => s.a)] at this; exact this
  b := by have := h.nul.b; unfold wB at this; rw [ls_snoc (fun s => s.b)] at this; exact this
  c := by have := h.nul.c; unfold wC at this; rw [ls_snoc (fun s => s.c)] at this; exact this
  d := by have := h.d; unfold wD at this; rw [ls_snoc (fun s => s.d)] at this; exact this
theorem Part.full {L : List S4} {p : S4} {v : Nat → Int} {w : Int} (h : Part L v w p) (hw : w = 0) : Full L v where
  nn := h.nn
  ne := h.ne.resolve_left (by omega)
  nul := ⟨by have := h.a; rw [hw] at this; omega, by have := h.b; rw [hw] at this; omega, by have := h.c; rw [hw] at this; omega⟩
  d := by have := h.d; rw [hw] at this; omega
theorem all_snoc {L : List S4} {p : S4} (hL : ∀ p ∈ L, okp p = true) (hp : okp p = true) : ∀ q ∈ L ++ [p], okp q = true := fun q hq => by
  rcases List.mem_append.1 hq with hq | hq
  · exact hL q hq
  · rw [List.mem_singleton] at hq; subst hq; exact hp
/-- where there is room, there is on one of a plane's sides. -/
theorem room_one {L : List S4} {p : S4} (hL : ∀ p ∈ L, okp p = true) (hp : okp p = true) (h : opn L = true) (h1 : opn (L ++ [p]) = false) (h2 : opn (L ++ [flp p]) = false) : False := by
  obtain ⟨v1, f1⟩ := opn_full (all_snoc hL hp) h1
  obtain ⟨v2, f2⟩ := opn_full (all_snoc hL (flp_ok hp)) h2
  have p1 := f1.part; have p2 := f2.part
  generalize v1 L.length = x at p1
  generalize v2 L.length = y at p2
  have no : ∀ v, ¬ Full L v := fun v hv => by have := hv.opn hL; rw [h] at this; cases this
  have x0 : 0 < x := by
    have := p1.wn
    have : x ≠ 0 := fun e => no _ (p1.full e)
    omega
  have y0 : 0 < y := by
    have := p2.wn
    have : y ≠ 0 := fun e => no _ (p2.full e)
    omega
  refine no (fun i => y * v1 i + x * v2 i) ⟨fun i hi => ?_, ?_, ⟨?_, ?_, ?_⟩, ?_⟩
  · have := Int.mul_nonneg (Int.le_of_lt y0) (p1.nn i hi)
    have := Int.mul_nonneg (Int.le_of_lt x0) (p2.nn i hi)
    omega
  · by_cases e : ∃ i, i < L.length ∧ v1 i ≠ 0
    · obtain ⟨i, hi, hv⟩ := e
      refine ⟨i, hi, ?_⟩
      have := p1.nn i hi
      have := Int.mul_pos y0 (show 0 < v1 i by omega)
      have := Int.mul_nonneg (Int.le_of_lt x0) (p2.nn i hi)
      omega
    · exfalso
      have z : ∀ f : S4 → Int, ls (fun i => v1 i * f (rd L (i : Int))) (List.range L.length) = 0 := fun f => ls_zero fun i hi => by
        have : v1 i = 0 := Decidable.byContradiction fun c => e ⟨i, List.mem_range.1 hi, c⟩
        rw [this, Int.zero_mul]
      have a := p1.a; have b := p1.b; have c := p1.c
      unfold wA at a; unfold wB at b; unfold wC at c
      rw [z fun s => s.a] at a; rw [z fun s => s.b] at b; rw [z fun s => s.c] at c
      refine okp_nz hp ?_
      simp only [ip, v3, (Int.mul_eq_zero.1 (show x * p.a = 0 by omega)).resolve_left (by omega), (Int.mul_eq_zero.1 (show x * p.b = 0 by omega)).resolve_left (by omega), (Int.mul_eq_zero.1 (show x * p.c = 0 by omega)).resolve_left (by omega)]; rfl
  · have a1 := p1.a; have a2 := p2.a
    unfold wA at a1 a2 ⊢
    rw [ls_congr (g := fun i => y * (v1 i * (rd L (i : Int)).a) + x * (v2 i * (rd L (i : Int)).a)) fun i _ => by grind, ls_lin]
    simp only [flp] at a2; grind
  · have a1 := p1.b; have a2 := p2.b
    unfold wB at a1 a2 ⊢
    rw [ls_congr (g := fun i => y * (v1 i * (rd L (i : Int)).b) + x * (v2 i * (rd L (i : Int)).b)) fun i _ => by grind, ls_lin]
    simp only [flp] at a2; grind
  · have a1 := p1.c; have a2 := p2.c
    unfold wC at a1 a2 ⊢
    rw [ls_congr (g := fun i => y * (v1 i * (rd L (i : Int)).c) + x * (v2 i * (rd L (i : Int)).c)) fun i _ => by grind, ls_lin]
    simp only [flp] at a2; grind
  · have a1 := p1.d; have a2 := p2.d
    rw [wD_lin]
    simp only [flp] at a2
    generalize ls (wD L v1) (List.range L.length) = s at *
    generalize ls (wD L v2) (List.range L.length) = t at *
    have q1 := Int.mul_nonneg (Int.le_of_lt y0) (show 0 ≤ -(s + x * p.d) by omega)
    have q2 := Int.mul_nonneg (Int.le_of_lt x0) (show 0 ≤ -(t + y * -p.d) by omega)
    have e : y * -(s + x * p.d) + x * -(t + y * -p.d) = -(y * s + x * t) := by grind
    omega
/-- what a plane says of a spot -/
def sv (p s : S4) : Int := p.a * s.a + p.b * s.b + p.c * s.c + p.d * s.d
theorem sv_sum (L : List S4) (v : Nat → Int) (s : S4) : ∀ l : List Nat, ls (fun i => v i * sv (rd L (i : Int)) s) l = ls (wA L v) l * s.a + ls (wB L v) l * s.b + ls (wC L v) l * s.c + ls (wD L v) l * s.d
  | [] => by simp [ls]
  | i :: l => by simp only [ls]; rw [sv_sum L v s l]; unfold sv wA wB wC wD; grind
/-- a point on the sides of all: there is room. -/
theorem point_opn {L : List S4} (hL : ∀ p ∈ L, okp p = true) {s : S4} (hs : 0 < s.d) (h : ∀ p ∈ L, 0 < sv p s) : opn L = true := by
  cases ho : opn L with
  | true => rfl
  | false =>
    exfalso
    obtain ⟨v, f⟩ := opn_full hL ho
    have hsv : ∀ i, i < L.length → 0 < sv (rd L (i : Nat)) s := fun i hi => by rw [rd_in hi]; exact h _ (List.getElem_mem hi)
    have p1 : 0 < ls (fun i => v i * sv (rd L (i : Int)) s) (List.range L.length) := by
      refine ls_pos (fun i hi => ?_) ?_
      · exact Int.mul_nonneg (f.nn i (List.mem_range.1 hi)) (Int.le_of_lt (hsv i (List.mem_range.1 hi)))
      · obtain ⟨i, hi, hv⟩ := f.ne
        have := f.nn i hi
        exact ⟨i, List.mem_range.2 hi, Int.mul_pos (by omega) (hsv i hi)⟩
    rw [sv_sum, f.nul.a, f.nul.b, f.nul.c] at p1
    have := Int.mul_nonneg (show 0 ≤ -ls (wD L v) (List.range L.length) by have := f.d; omega) (Int.le_of_lt hs)
    rw [Int.neg_mul] at this
    omega
theorem sd_sv {p s : S4} (hp : okp p = true) (hs : spk s = true) : sd p s = sgn (sv p s) := by
  obtain ⟨⟨h1, h2, h3⟩, h4⟩ := okp_bd4 hp
  simp only [v3] at h1 h2 h3
  unfold spk at hs
  rw [Bool.and_eq_true, decide_eq_true_eq] at hs
  obtain ⟨⟨s1, s2, s3, s4⟩, _⟩ := hs
  have m1 := mul_bd h1 s2; have m2 := mul_bd h2 s3; have m3 := mul_bd h3 s4
  have m4 := mul_bd (X := 500) (Y := 1000000000) h4 (show -1000000000 ≤ s.d ∧ s.d ≤ 1000000000 by omega)
  unfold sd
  congr 1
  simp only [W_add_l, W_add_r]
  exact W_id (by omega) (by omega)
def sideV (p s : S4) : Int := if okp p = true ∧ spk s = true then sd p s else 0
theorem spec_SideAt_ev (p s : S4) : Ev (fun k => spec_SideAt.f k p s) (sideV p s) := by
  unfold spec_SideAt.f sideV
  refine Ev.bind (spec_PlaneOk_ev p) ?_
  cases hp : okp p with
  | false => simp only [Bool.not_false, if_true]; rw [if_neg (by simp)]; exact .now fun _ => rfl
  | true =>
    simp only [Bool.not_true, Bool.false_eq_true, if_false]
    refine Ev.bind (spec_SpotOk_ev s) ?_
    cases hs : spk s with
    | false => simp only [Bool.not_false, if_true]; rw [if_neg (by simp)]; exact .now fun _ => rfl
    | true =>
      simp only [Bool.not_true, Bool.false_eq_true, if_false, l5Side_f, Option.bind_some]
      exact .now fun _ => rfl

/-- four numbers with one above 0 for the last -/
theorem spotS_step {L : List Nm} {acc : List Int} {i G : Nat} {x y : Int} {b8 : S4} {v : spec_SpotOf.B7} (hy : 0 < y) (hi : i < 4) (hL : L.length = 4) (e : rd L (i : Int) = nm x) (hx : x.natAbs ≤ 1000000000) (hG : 0 < G) (hG2 : G < 1000000000000) (ha : acc.length ≤ 4)
    (h : Lv (fun k m => spec_SpotOf.l7 k m y L ((i + 1 : Nat) : Int) b8 ⟨false, dg G⟩ (acc ++ [pv x G])) v) : Lv (fun k m => spec_SpotOf.l7 k m y L (i : Int) b8 ⟨false, dg G⟩ acc) v := by
  obtain ⟨q, e1, q1, q2, q3⟩ := div_dg (x := x.natAbs) (n := G) (by omega) hG2 hG
  have hle : x.natAbs / G ≤ 1000000000 := Nat.le_trans (Nat.div_le_self _ _) hx
  have e2 := l1Num_ev (neg := decide (x < 0)) q1 (by omega)
  rw [numV, q3, Int.toNat_natCast] at e2
  have e3 := small_ev (neg := decide (x < 0) && decide (((x.natAbs / G : Nat) : Int) ≠ 0)) (n := x.natAbs / G) (by omega) (fun h e => by rw [Bool.and_eq_true] at h; exact of_decide_eq_true h.2 (by rw [e]; rfl))
  rw [pv_sg] at e3
  have f1 : (i : Int) < 4 := by omega
  have f2 : (i : Int) < (L.length : Int) := by omega
  have f0 : (0 : Int) ≤ (i : Int) := by omega
  have w : W ((i : Int) + 1) = ((i + 1 : Nat) : Int) := by rw [W_id (by omega) (by omega)]; omega
  have f3 : lt47 (acc.length + ([pv x G] : List Int).length) = true := lt47_of (by rw [List.length_singleton]; omega)
  have c : -1000000000 ≤ pv x G ∧ pv x G ≤ 1000000000 := by
    have := pv_abs x G
    omega
  refine Lv.step (g := fun k m => spec_SpotOf.s7 k (spec_SpotOf.l7 k m) y L (i : Int) b8 ⟨false, dg G⟩ acc) ?_ (fun _ _ => rfl)
  unfold spec_SpotOf.s7
  have nb : (!(decide (x < 0) == decide (y < 0))) = decide (x < 0) := by
    rw [decide_eq_false (show ¬ y < 0 by omega)]; cases decide (x < 0) <;> rfl
  simp only [decide_eq_true_eq, if_pos f1, if_pos f0, if_pos f2, e, nm, w, nb]
  refine Lv.bind e1 ?_
  refine Lv.bind e2 ?_
  refine Lv.bind e3 ?_
  simp only [l1In_f, Option.bind_some, Bool.not_true, Bool.false_eq_true, if_false, decide_eq_true c, f3, if_true]
  exact h
def spotV (a b c d : Int) : S4 := ⟨pv a (g4 a b c d), pv b (g4 a b c d), pv c (g4 a b c d), pv d (g4 a b c d)⟩
theorem SpotOf_ev {a b c d : Int} (ha : a.natAbs ≤ 1000000000) (hb : b.natAbs ≤ 1000000000) (hc : c.natAbs ≤ 1000000000) (hd : 0 < d) (hd2 : d.natAbs ≤ 1000000000) : Ev (fun k => spec_SpotOf.f k a b c d) (spotV a b c d, true, ()) := by
  have q1 := gcd_lt (x := 0) (b := 1000000000000) (by omega) (show a.natAbs < 1000000000000 by omega)
  have q2 := gcd_lt q1 (show b.natAbs < 1000000000000 by omega)
  have q3 := gcd_lt q2 (show c.natAbs < 1000000000000 by omega)
  have q4 : g4 a b c d < 1000000000000 := gcd_lt q3 (by omega)
  have qp : 0 < g4 a b c d := by
    refine Nat.pos_of_ne_zero (fun e => ?_)
    have e1 := Nat.eq_zero_of_gcd_eq_zero_right e
    omega
  have eg := NumGcd_ev (a := a) (b := b) (c := c) (d := d) (by omega) (by omega) (by omega) (by omega)
  unfold spotV
  generalize g4 a b c d = G at *
  have loop : Lv (fun k m => spec_SpotOf.l7 k m d [nm a, nm b, nm c, nm d] ((0 : Nat) : Int) ⟨0, 0, 0, 0⟩ ⟨false, dg G⟩ []) (.inr (((), (), ()), (⟨0, 0, 0, 0⟩, [pv a G, pv b G, pv c G, pv d G], ()))) := by
    refine spotS_step hd (i := 0) (by omega) rfl rfl ha qp q4 (by simp) ?_
    refine spotS_step hd (i := 1) (by omega) rfl rfl hb qp q4 (by simp) ?_
    refine spotS_step hd (i := 2) (by omega) rfl rfl hc qp q4 (by simp) ?_
    refine spotS_step hd (i := 3) (by omega) rfl rfl hd2 qp q4 (by simp) ?_
    refine Lv.step (g := fun k m => spec_SpotOf.s7 k (spec_SpotOf.l7 k m) d [nm a, nm b, nm c, nm d] ((4 : Nat) : Int) ⟨0, 0, 0, 0⟩ ⟨false, dg G⟩ [pv a G, pv b G, pv c G, pv d G]) ?_ (fun _ _ => rfl)
    refine .now fun k m => ?_
    simp only [spec_SpotOf.s7, decide_eq_true_eq]
    rw [if_neg (by omega)]
  have dz : ¬ ((d == 0) = true) := by rw [beq_iff_eq]; omega
  simp only [spec_SpotOf.f, if_neg dz]
  refine Ev.bind (Of_ev (by omega)) ?_
  refine Ev.bind (Of_ev (by omega)) ?_
  refine Ev.bind (Of_ev (by omega)) ?_
  refine Ev.bind (Of_ev (by omega)) ?_
  refine Ev.bind eg ?_
  exact Ev.bind loop.ev (.now fun k => rfl)
/-- the spot that the laws draw of four bytes -/
theorem drawn_spot {m : Int} (hm : 0 < m ∧ m ≤ 100) {x y z w : Int} {h : Int} (hh : 0 ≤ h ∧ h ≤ 100) (hx : 0 ≤ x ∧ x ≤ 255) (hy : 0 ≤ y ∧ y ≤ 255) (hz : 0 ≤ z ∧ z ≤ 255) (hw : 0 ≤ w ∧ w ≤ 255) :
    Ex (fun k => spec_SpotOf.f k (W ((x.tmod m) - h)) (W ((y.tmod m) - h)) (W ((z.tmod m) - h)) (W (1 + (w.tmod 2)))) (fun _ => True) := by
  have a1 := tmod_bd hx.1 hm.1; have a2 := tmod_bd hy.1 hm.1; have a3 := tmod_bd hz.1 hm.1; have a4 := tmod_bd hw.1 (show (0 : Int) < 2 by omega)
  rw [W_id (by omega) (by omega), W_id (by omega) (by omega), W_id (by omega) (by omega), W_id (by omega) (by omega)]
  exact (SpotOf_ev (by omega) (by omega) (by omega) (by omega) (by omega)).ex trivial
end Go.Proofs.Ytlkcpldohlemcaa.Q
