/- FnShifted: a plane that is shifted. -/
import Derived.Test.YtlkcpldohlemcaaL1
namespace Go.Proofs.Ytlkcpldohlemcaa.Q
open Go Go.RowKit Go.Proofs Go.Proofs.Ytlkcpldohlemcaa.Ev Go.Proofs.Ytlkcpldohlemcaa.G
set_option linter.unusedSimpArgs false
set_option linter.unusedVariables false

def shD (p : S4) (b : S3) : Int := p.d - (p.a * b.x + p.b * b.y + p.c * b.z)
def PtOk (b : S3) : Prop := (-1000000 ≤ b.x ∧ b.x ≤ 1000000) ∧ (-1000000 ≤ b.y ∧ b.y ≤ 1000000) ∧ (-1000000 ≤ b.z ∧ b.z ≤ 1000000)
instance (b : S3) : Decidable (PtOk b) := by unfold PtOk; infer_instance
theorem spec_PtOk_f (k : Nat) (b : S3) : spec_PtOk.f k b = some (decide (PtOk b)) := by
  simp only [spec_PtOk.f, l1In_f, Option.bind_some, decide_eq_true_eq, PtOk]
  by_cases h1 : -1000000 ≤ b.x ∧ b.x ≤ 1000000
  · by_cases h2 : -1000000 ≤ b.y ∧ b.y ≤ 1000000
    · rw [if_pos h1, if_pos h2]; simp [h1, h2]
    · rw [if_pos h1, if_neg h2]; simp [h1, h2]
  · rw [if_neg h1]; simp [h1]
theorem impl_PtOk_f (k : Nat) (b : S3) : impl_PtOk.f k b = some (decide (PtOk b)) := by
  simp only [impl_PtOk.f, inRange_f, Option.bind_some, decide_eq_true_eq, PtOk]
  by_cases h1 : -1000000 ≤ b.x ∧ b.x ≤ 1000000
  · by_cases h2 : -1000000 ≤ b.y ∧ b.y ≤ 1000000
    · rw [if_pos h1, if_pos h2]; simp [h1, h2]
    · rw [if_pos h1, if_neg h2]; simp [h1, h2]
  · rw [if_neg h1]; simp [h1]
theorem shD_bd {p : S4} {b : S3} (hp : Bd4 p) (hb : PtOk b) : (-1500000500 ≤ shD p b ∧ shD p b ≤ 1500000500) ∧ W (p.d - W (W (W (p.a * b.x) + W (p.b * b.y)) + W (p.c * b.z))) = shD p b := by
  obtain ⟨⟨ha, hb', hc⟩, hd⟩ := hp
  simp only [v3] at ha hb' hc
  have m1 := mul_bd ha hb.1; have m2 := mul_bd hb' hb.2.1; have m3 := mul_bd hc hb.2.2
  have bd : -1500000500 ≤ p.d - (p.a * b.x + p.b * b.y + p.c * b.z) ∧ p.d - (p.a * b.x + p.b * b.y + p.c * b.z) ≤ 1500000500 := by omega
  refine ⟨bd, ?_⟩
  simp only [W_add_l, W_add_r, W_sub_r]
  exact W_id (by omega) (by omega)
theorem shD_dvd {p : S4} {b : S3} (G : Nat) (ha : G ∣ p.a.natAbs) (hb : G ∣ p.b.natAbs) (hc : G ∣ p.c.natAbs) (hd : G ∣ (shD p b).natAbs) : G ∣ p.d.natAbs := by
  have ka := Int.ofNat_dvd_left.mpr ha; have kb := Int.ofNat_dvd_left.mpr hb; have kc := Int.ofNat_dvd_left.mpr hc; have kd := Int.ofNat_dvd_left.mpr hd
  have e : p.d = shD p b + (p.a * b.x + p.b * b.y + p.c * b.z) := by unfold shD; omega
  refine Int.ofNat_dvd_left.mp ?_
  rw [e]
  exact Int.dvd_add kd (Int.dvd_add (Int.dvd_add (Int.dvd_mul_of_dvd_left ka) (Int.dvd_mul_of_dvd_left kb)) (Int.dvd_mul_of_dvd_left kc))
def shP (p : S4) (b : S3) : S4 := ⟨p.a, p.b, p.c, shD p b⟩
def shV (p : S4) (b : S3) : S4 × Int × Unit := if okp p = true ∧ PtOk b then (if inC (shD p b) then (shP p b, 0, ()) else (⟨0, 0, 0, 0⟩, 2, ())) else (⟨0, 0, 0, 0⟩, 1, ())
theorem spec_Shifted_ev (p : S4) (b : S3) : Ev (fun k => spec_Shifted.f k p b) (shV p b) := by
  unfold spec_Shifted.f shV
  refine Ev.bind (spec_PlaneOk_ev p) ?_
  cases hp : okp p
  · simp only [Bool.not_false, if_true, Bool.false_eq_true, false_and, if_false]; exact .now fun _ => rfl
  simp only [Bool.not_true, Bool.false_eq_true, if_false, true_and]
  refine Ev.bind (a := decide (PtOk b)) (.now fun k => spec_PtOk_f k b) ?_
  by_cases q : PtOk b
  · simp only [decide_eq_true q, Bool.not_true, Bool.false_eq_true, if_false, if_pos q]
    obtain ⟨ha, hb, hc, hd, hnz, hg⟩ := okp_iff.mp hp
    obtain ⟨bd, hw⟩ := shD_bd (okp_bd4 hp) q
    have key := Primitive_ev (a := p.a) (b := p.b) (c := p.c) (d := shD p b) (by omega) (by omega) (by omega) (by omega) (by omega)
    rw [g4_one hg (fun G => shD_dvd G)] at key
    simp only [primV, pv_one] at key
    have ev : (if inC p.a ∧ inC p.b ∧ inC p.c ∧ inC (shD p b) then ((⟨p.a, p.b, p.c, shD p b⟩ : S4), (0 : Int), ()) else (⟨0, 0, 0, 0⟩, 2, ())) = (if inC (shD p b) then (shP p b, 0, ()) else (⟨0, 0, 0, 0⟩, 2, ())) := by
      by_cases g : inC (shD p b)
      · rw [if_pos g, if_pos ⟨ha, hb, hc, g⟩]; rfl
      · rw [if_neg g, if_neg (fun h => g h.2.2.2)]
    rw [ev] at key
    simp only [hw]
    exact Ev.bind key (.now fun _ => rfl)
  · simp only [decide_eq_false q, Bool.not_false, if_true, if_neg q]; exact .now fun _ => rfl
theorem isCoef_f (k : Nat) (x : Int) : impl_isCoef.f k x = some (decide (inC x)) := by
  simp only [impl_isCoef.f, inRange_f, Option.bind_some]; rfl
theorem impl_Shifted_ev (p : S4) (b : S3) : Ev (fun k => impl_Shifted.f k p b) (shV p b) := by
  unfold impl_Shifted.f shV
  refine Ev.bind (impl_PlaneOk_ev p) ?_
  cases hp : okp p
  · simp only [Bool.not_false, if_true, Bool.false_eq_true, false_and, if_false]; exact .now fun _ => rfl
  simp only [Bool.not_true, Bool.false_eq_true, if_false, true_and]
  refine Ev.bind (a := decide (PtOk b)) (.now fun k => impl_PtOk_f k b) ?_
  by_cases q : PtOk b
  · simp only [decide_eq_true q, Bool.not_true, Bool.false_eq_true, if_false, if_pos q]
    obtain ⟨bd, hw⟩ := shD_bd (okp_bd4 hp) q
    simp only [hw]
    refine Ev.bind (a := decide (inC (shD p b))) (.now fun k => isCoef_f k _) ?_
    by_cases g : inC (shD p b)
    · simp only [decide_eq_true g, Bool.not_true, Bool.false_eq_true, if_false, if_pos g]; exact .now fun _ => rfl
    · simp only [decide_eq_false g, Bool.not_false, if_true, if_neg g]; exact .now fun _ => rfl
  · simp only [decide_eq_false q, Bool.not_false, if_true, if_neg q]; exact .now fun _ => rfl
theorem l3Pt_ex {s : Cur} (h : SI s) : Ex (fun k => spec_l3Pt.f k s) (fun b => SI b.2) := by
  unfold spec_l3Pt.f
  refine Ex.bind (l1Below_ex h 9) fun t1 h1 => ?_
  refine Ex.bind (l1Below_ex h1.2 9) fun t2 h2 => ?_
  refine Ex.bind (l1Below_ex h2.2 9) fun t3 h3 => ?_
  refine Ex.bind (l1Below_ex h3.2 16) fun t4 h4 => ?_
  by_cases c0 : (t4.1 == 0) = true
  · simp only [if_pos c0]; exact Ex.bind (l1Int_ex h4.2 (by simp)) fun t5 h5 => Ex.now h5.2
  · simp only [if_neg c0]
    by_cases c1 : (t4.1 == 1) = true
    · simp only [if_pos c1]; exact Ex.bind (l1Int_ex h4.2 (by simp)) fun t5 h5 => Ex.now h5.2
    · simp only [if_neg c1]; exact Ex.now h4.2
theorem DrawShifted_ex {a : List Int} (h : a.length ≤ 1099511627776) : Ex (fun k => spec_DrawShifted.f k a) (fun _ => True) := by
  unfold spec_DrawShifted.f
  refine Ex.bind (l1New_ex h) fun t1 h1 => ?_
  refine Ex.bind (l3DrawAny_ex h1) fun t2 h2 => ?_
  exact Ex.bind (l3Pt_ex h2) fun t3 h3 => Ex.now trivial
theorem at_ex {a : List Int} (h : a.length ≤ 1048576) (hb : ∀ x ∈ a, 0 ≤ x ∧ x ≤ 255) (i : Nat) (hi : i ≤ 1000) : Ex (fun k => laws_at.f k a (i : Int)) (fun x => 0 ≤ x ∧ x ≤ 255) := by
  unfold laws_at.f
  simp only [decide_eq_true_eq]
  by_cases c : (i : Int) < (a.length : Int)
  · have f0 : (0 : Int) ≤ (i : Int) := by omega
    have hm : i < a.length := by omega
    have := hb _ (List.getElem_mem hm)
    simp only [if_pos c, if_pos f0, rd_get hm]
    refine Ex.now ?_
    rw [W_id (by omega) (by omega)]; exact this
  · have t : ¬ ((256 : Int) = 0) := by decide
    have t' : ¬ ((256 : Nat) = 0) := by decide
    simp only [if_neg c, if_neg t, if_neg t']
    refine Ex.now ?_
    have e : 0 ≤ W (W ((i : Int) * 31) + W ((a.length : Int) * 7)) := by
      rw [W_id (x := (i : Int) * 31) (by omega) (by omega), W_id (x := (a.length : Int) * 7) (by omega) (by omega), W_id (by omega) (by omega)]; omega
    have := tmod_bd e (show (0 : Int) < 256 by omega)
    omega
def vat (p : S4) (b : S3) : Int := p.a * b.x + p.b * b.y + p.c * b.z + p.d
theorem SideOf_ev {p : S4} {b : S3} (hp : okp p = true) (hb : PtOk b) : Ev (fun k => impl_SideOf.f k p b) (sgn (vat p b)) := by
  unfold impl_SideOf.f
  refine Ev.bind (impl_PlaneOk_ev p) ?_
  simp only [hp, Bool.not_true, Bool.false_eq_true, if_false, impl_PtOk_f, Option.bind_some, decide_eq_true hb, impl_valueAt.f, sign_f]
  obtain ⟨⟨ha, hb', hc⟩, hd⟩ := okp_bd4 hp
  simp only [v3] at ha hb' hc
  have m1 := mul_bd ha hb.1; have m2 := mul_bd hb' hb.2.1; have m3 := mul_bd hc hb.2.2
  have e : W (W (W (W (p.a * b.x) + W (p.b * b.y)) + W (p.c * b.z)) + p.d) = vat p b := by
    simp only [W_add_l, W_add_r]
    exact W_id (by omega) (by omega)
  rw [e]; exact .now fun _ => rfl
theorem par_self {p : S4} (h : okp p = true) : par (v3 p) (v3 p) = 1 := by
  have hc : cx (v3 p) (v3 p) = z3 := by simp only [cx, z3, S3.mk.injEq]; refine ⟨?_, ?_, ?_⟩ <;> grind
  have := okp_nz h
  have := ip_nn (v3 p)
  unfold par
  rw [if_pos hc, sgn_one]; omega
theorem shP_ok {p : S4} {b : S3} (hp : okp p = true) (h : inC (shD p b)) : okp (shP p b) = true := by
  obtain ⟨ha, hb, hc, hd, hnz, hg⟩ := okp_iff.mp hp
  rw [okp_iff]
  refine ⟨ha, hb, hc, h, hnz, ?_⟩
  have := g4_one (a := p.a) (b := p.b) (c := p.c) (d2 := shD p b) hg (fun G => shD_dvd G)
  rw [g4_eq] at this
  exact this
theorem FnShifted_pure {a : List Int} (ha : a.length ≤ 9223372036854775807 ∧ ∀ x ∈ a, 0 ≤ x ∧ x ≤ 255) : ∃ k, laws_FnShifted.f k a = some true := by
  have key : Ev (fun k => laws_FnShifted.f k a) true := by
    unfold laws_FnShifted.f
    refine Ev.bind (a := decide ((a.length : Int) > 1048576)) (.now fun _ => rfl) ?_
    simp only [decide_eq_true_eq]
    by_cases hb : (a.length : Int) > 1048576
    · simp only [if_pos hb]; exact .now fun _ => rfl
    · simp only [if_neg hb]
      obtain ⟨⟨p, b, u⟩, hd, _⟩ := DrawShifted_ex (a := a) (by omega)
      refine Ev.bind hd ?_
      refine Ev.bind (impl_Shifted_ev p b) ?_
      refine Ev.bind (spec_Shifted_ev p b) ?_
      simp only [bne_self_eq_false, Bool.false_eq_true, if_false, beq_self_eq_true]
      by_cases c0 : (shV p b).2.1 = 0
      rotate_left
      · have : ((shV p b).2.1 != 0) = true := by simp [c0]
        simp only [if_pos this]; exact .now fun _ => rfl
      have c0' : ((shV p b).2.1 != 0) = false := by simp [c0]
      simp only [c0', Bool.false_eq_true, if_false]
      obtain ⟨hp, hq, hin⟩ : okp p = true ∧ PtOk b ∧ inC (shD p b) := by
        unfold shV at c0
        by_cases h1 : okp p = true ∧ PtOk b
        · by_cases h2 : inC (shD p b)
          · exact ⟨h1.1, h1.2, h2⟩
          · rw [if_pos h1, if_neg h2] at c0; cases c0
        · rw [if_neg h1] at c0; cases c0
      have hv : shV p b = (shP p b, 0, ()) := by unfold shV; rw [if_pos ⟨hp, hq⟩, if_pos hin]
      rw [hv]
      obtain ⟨x1, e1, r1⟩ := at_ex (a := a) (by omega) ha.2 2 (by omega)
      obtain ⟨x2, e2, r2⟩ := at_ex (a := a) (by omega) ha.2 3 (by omega)
      obtain ⟨x3, e3, r3⟩ := at_ex (a := a) (by omega) ha.2 4 (by omega)
      refine Ev.bind e1 ?_
      refine Ev.bind e2 ?_
      refine Ev.bind e3 ?_
      obtain ⟨q1, q2, q3⟩ := hq
      have n1 : W (0 - b.x) = -b.x := W_neg (by omega)
      have n2 : W (0 - b.y) = -b.y := W_neg (by omega)
      have n3 : W (0 - b.z) = -b.z := W_neg (by omega)
      have w1 : W (x1 - 100) = x1 - 100 := W_id (by omega) (by omega)
      have w2 : W (x2 - 100) = x2 - 100 := W_id (by omega) (by omega)
      have w3 : W (x3 - 100) = x3 - 100 := W_id (by omega) (by omega)
      have w4 : W (x1 - 100 + b.x) = x1 - 100 + b.x := W_id (by omega) (by omega)
      have w5 : W (x2 - 100 + b.y) = x2 - 100 + b.y := W_id (by omega) (by omega)
      have w6 : W (x3 - 100 + b.z) = x3 - 100 + b.z := W_id (by omega) (by omega)
      simp only [n1, n2, n3, w1, w2, w3, w4, w5, w6]
      have hqo := shP_ok hp hin
      have hno : PtOk ⟨-b.x, -b.y, -b.z⟩ := ⟨by show -1000000 ≤ -b.x ∧ -b.x ≤ 1000000; omega, by show -1000000 ≤ -b.y ∧ -b.y ≤ 1000000; omega, by show -1000000 ≤ -b.z ∧ -b.z ≤ 1000000; omega⟩
      have hback : shD (shP p b) ⟨-b.x, -b.y, -b.z⟩ = p.d := by
        simp only [shD, shP, Int.mul_neg]; omega
      have hv2 : shV (shP p b) ⟨-b.x, -b.y, -b.z⟩ = (p, 0, ()) := by
        unfold shV
        rw [if_pos ⟨hqo, hno⟩, hback, if_pos (show inC p.d from (okp_iff.mp hp).2.2.2.1)]
        show ((⟨p.a, p.b, p.c, shD (shP p b) ⟨-b.x, -b.y, -b.z⟩⟩ : S4), (0 : Int), ()) = _
        rw [hback]
      refine Ev.bind (impl_Shifted_ev (shP p b) ⟨-b.x, -b.y, -b.z⟩) ?_
      rw [hv2]
      simp only [beq_self_eq_true, if_true, Bool.and_self, impl_PtOk_f, Option.bind_some]
      have hpar : Ev (fun k => (impl_Parallel.f k p (shP p b)).bind fun t => some (t == 1)) true := by
        refine Ev.bind (Parallel_ev hp hqo) ?_
        rw [show par (v3 p) (v3 (shP p b)) = 1 from par_self hp]; exact .now fun _ => rfl
      by_cases ht : PtOk ⟨x1 - 100 + b.x, x2 - 100 + b.y, x3 - 100 + b.z⟩
      · simp only [decide_eq_true ht, Bool.not_true, Bool.false_eq_true, if_false]
        refine Ev.bind (SideOf_ev hqo ht) ?_
        have hpt : PtOk ⟨x1 - 100, x2 - 100, x3 - 100⟩ := ⟨by show -1000000 ≤ x1 - 100 ∧ x1 - 100 ≤ 1000000; omega, by show -1000000 ≤ x2 - 100 ∧ x2 - 100 ≤ 1000000; omega, by show -1000000 ≤ x3 - 100 ∧ x3 - 100 ≤ 1000000; omega⟩
        refine Ev.bind (SideOf_ev hp hpt) ?_
        have hsame : vat (shP p b) ⟨x1 - 100 + b.x, x2 - 100 + b.y, x3 - 100 + b.z⟩ = vat p ⟨x1 - 100, x2 - 100, x3 - 100⟩ := by
          simp only [vat, shP, shD, Int.mul_add]; omega
        rw [hsame]
        simp only [beq_self_eq_true, if_true]
        exact hpar
      · simp only [decide_eq_false ht, Bool.not_false, if_true]
        exact hpar
  obtain ⟨K, h⟩ := key
  exact ⟨K, h K (Nat.le_refl _)⟩
end Go.Proofs.Ytlkcpldohlemcaa.Q
