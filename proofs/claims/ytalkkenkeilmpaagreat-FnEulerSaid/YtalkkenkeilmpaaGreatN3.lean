/- Long numbers of the reference: the quotient, the greatest divisor, an int again; the primitive plane; a plane shifted. -/
import Derived.Test.YtalkkenkeilmpaaGreatN2
namespace Go.Proofs.YtalkkenkeilmpaaGreat.Q
open Go Go.RowKit Go.Proofs Go.Proofs.YtalkkenkeilmpaaGreat.Ev Go.Proofs.YtalkkenkeilmpaaGreat.G
set_option linter.unusedSimpArgs false
set_option linter.unusedVariables false

theorem div_lt {xs q : List Int} {n r : Nat} (hn : n < 1000000000000) (hr : r < n) {i : Int} : Lv (fun k m => spec_l1DivMag.l7 k m xs (dg n) (dg r) i q) ((xs, dg n, (), dg r, i, ()), (q, ())) := by
  have hc := cmp_dg (a := r) (b := n) (by omega) (by omega)
  rw [show cmpI (r : Int) (n : Int) = -1 from if_pos (by omega)] at hc
  refine Lv.step (g := fun k m => spec_l1DivMag.s7 k (spec_l1DivMag.l7 k m) xs (dg n) (dg r) i q) ?_ (fun _ _ => rfl)
  unfold spec_l1DivMag.s7
  refine Lv.bind hc (.now fun k m => ?_)
  rw [if_neg (by decide)]
theorem div_l7 {xs q : List Int} {n r : Nat} (hn : n < 1000000000000) (h0 : 0 < n) (hr : r < n * 10000) {i : Nat} (hi : i < q.length) (hq : 0 ≤ q[i] ∧ q[i] ≤ 9999) :
    Lv (fun k m => spec_l1DivMag.l7 k m xs (dg n) (dg r) (i : Int) q) ((xs, dg n, (), dg (r % n), (i : Int), ()), (q.set i (q[i] + (r / n : Nat)), ())) := by
  by_cases c : r < n
  · rw [Nat.div_eq_of_lt c, Nat.mod_eq_of_lt c, show q[i] + ((0 : Nat) : Int) = q[i] by omega, List.set_getElem_self]
    exact div_lt hn c
  · have hc := cmp_dg (a := r) (b := n) (by omega) (by omega)
    have hc0 : cmpI (r : Int) (n : Int) ≥ 0 := by unfold cmpI; split <;> (try split) <;> omega
    have hg := guess_dg (m := r) (n := n) (by omega) hn h0 (by omega)
    have gq : r / n < 10000 := Nat.div_lt_of_lt_mul (by omega)
    have le : n * (r / n) ≤ r := Nat.mul_div_le r n
    have em2 : r - n * (r / n) = r % n := by have := Nat.div_add_mod r n; omega
    have hml := Nat.mod_lt r h0
    have hmd := mul_dg hn (g := ((r / n : Nat) : Int)) (by have := gq; generalize r / n = z at this ⊢; omega)
    generalize r / n = Q at *
    generalize r % n = M at *
    have em : Int.tmod (Q : Int) 10000 = (Q : Int) := by rw [tmod_e (by omega)]; omega
    have ed : W (Int.tdiv (Q : Int) 10000) = 0 := by rw [tdiv_e (by omega), W_id (by omega) (by omega)]; omega
    obtain ⟨ds, e1, d1, d2, d3⟩ := hmd
    have e2 := l1Num_ev (neg := false) d1 (by omega)
    rw [numV, d3, show ((n : Int) * (Q : Int)).toNat = n * Q by rw [← Int.natCast_mul, Int.toNat_natCast]] at e2
    obtain ⟨ds2, e3, b1, b2, b3⟩ := sub_dg (a := r) (b := n * Q) (by omega) le
    have e4 := l1Num_ev (neg := false) b1 (by omega)
    rw [numV, b3, Int.toNat_natCast, em2] at e4
    have e5 := div_lt (xs := xs) (q := q.set i (q[i] + (Q : Int))) (i := (i : Int)) hn hml
    have wq : W (q[i] + (Q : Int)) = q[i] + (Q : Int) := W_id (by omega) (by omega)
    have f1 : (0 : Int) ≤ (i : Int) := by omega
    have f2 : (i : Int) < (q.length : Int) := by omega
    have ten : ¬ ((10000 : Int) = 0) := by decide
    have tenN : ¬ ((10000 : Nat) = 0) := by decide
    refine Lv.step (g := fun k m => spec_l1DivMag.s7 k (spec_l1DivMag.l7 k m) xs (dg n) (dg r) (i : Int) q) ?_ (fun _ _ => rfl)
    unfold spec_l1DivMag.s7
    refine Lv.bind hc ?_
    simp only [decide_eq_true_eq, if_pos hc0]
    refine Lv.bind hg ?_
    simp only [if_pos f1, if_pos f2, Int.toNat_natCast, if_pos hi, if_neg ten, if_neg tenN, em, ed, getD_get hi, wq]
    refine Lv.bind e1 ?_
    refine Lv.bind e2 ?_
    refine Lv.bind e3 ?_
    exact Lv.bind e4 e5
theorem div_l4 {xs : List Int} (hx : DG xs) (hb : xs.length ≤ 100) {n : Nat} (hn : n < 1000000000000) (h0 : 0 < n) : ∀ (i : Nat) (q : List Int) (R : Nat), i ≤ xs.length → q.length = xs.length → DG q → (∀ (j : Nat) (h : j < q.length), j < i → q[j] = 0) → R < n → val (xs.drop i) = val (q.drop i) * n + R →
    ∃ (q' : List Int) (R' : Nat), Lv (fun k m => spec_l1DivMag.l4 k m xs (dg n) (dg R) ((i : Int) - 1) q) (((), dg R', ()), (q', ())) ∧ DG q' ∧ q'.length = xs.length ∧ R' < n ∧ val xs = val q' * n + R' := by
  intro i
  induction i with
  | zero =>
    intro q R _ hl hq _ hR hv
    rw [List.drop_zero, List.drop_zero] at hv
    refine ⟨q, R, Lv.step (g := fun k m => spec_l1DivMag.s4 k (spec_l1DivMag.l4 k m) xs (dg n) (dg R) (((0 : Nat) : Int) - 1) q) (.now fun k m => ?_) (fun _ _ => rfl), hq, hl, hR, hv⟩
    simp only [spec_l1DivMag.s4, decide_eq_true_eq]
    rw [if_neg (by omega)]
  | succ i ih =>
    intro q R hi hl hq hz hR hv0
    have hv := Aside0.mk hv0
    clear hv0
    have hi1 : i < xs.length := by omega
    have hi2 : i < q.length := by omega
    have hp : 0 ≤ xs[i] ∧ xs[i] ≤ 9999 := hx _ (List.getElem_mem hi1)
    have hqz : q[i] = 0 := hz i hi2 (by omega)
    have e : (((i + 1 : Nat) : Int) - 1) = (i : Int) := by omega
    obtain ⟨r, hr⟩ : ∃ r : Nat, (r : Int) = xs[i] + 10000 * (R : Int) := ⟨(xs[i] + 10000 * (R : Int)).toNat, by omega⟩
    have hrn : r < n * 10000 := by omega
    have hdm := Nat.div_add_mod r n
    have gq : r / n < 10000 := Nat.div_lt_of_lt_mul (by omega)
    have lR : (dg R).length ≤ 3 := dg_len12 (by omega)
    have e2 := l1Num_ev (neg := false) (d := xs[i] :: dg R) (DG.cons hp (dg_DG R)) (by rw [List.length_cons]; omega)
    rw [numV] at e2
    simp only [val, dg_val, ← hr, Int.toNat_natCast] at e2
    have hdrop : (q.set i (q[i] + (r / n : Nat))).drop (i + 1) = q.drop (i + 1) := List.drop_set_of_lt (by omega)
    have hget : (q.set i (q[i] + (r / n : Nat)))[i]'(by simpa using hi2) = ((r / n : Nat) : Int) := by rw [List.getElem_set_self, hqz]; omega
    have hval : val (xs.drop i) = val ((q.set i (q[i] + (r / n : Nat))).drop i) * n + (r % n : Nat) := by
      rw [val_drop hi1, val_drop (l := q.set i (q[i] + (r / n : Nat))) (by simpa using hi2), hget, hdrop, hv.out]
      have : (r : Int) = (n : Int) * ((r / n : Nat) : Int) + ((r % n : Nat) : Int) := by rw [← Int.natCast_mul, ← Int.natCast_add, hdm]
      exact divkey hr this
    obtain ⟨q', R', e3, f⟩ := ih (q.set i (q[i] + (r / n : Nat))) (r % n) (by omega) (by simpa using hl) (fun y hy => by
      rcases List.mem_or_eq_of_mem_set hy with hy | rfl
      · exact hq y hy
      · rw [hqz]; have := gq; generalize r / n = z at this ⊢; omega) (fun j h hj => by
      rw [List.getElem_set_ne (by omega)]; exact hz j (by simpa using h) (by omega)) (Nat.mod_lt r h0) hval
    refine ⟨q', R', ?_, f⟩
    have w : W ((i : Int) - 1) = (i : Int) - 1 := W_id (by omega) (by omega)
    have e4 := div_l7 (xs := xs) (q := q) hn h0 hrn hi2 (by rw [hqz]; omega)
    have f1 : (0 : Int) ≤ (i : Int) := by omega
    have f2 : (i : Int) < (xs.length : Int) := by omega
    have f3 : lt47 (([xs[i]] : List Int).length + (dg R).length) = true := lt47_of (by rw [List.length_singleton]; omega)
    refine Lv.step (g := fun k m => spec_l1DivMag.s4 k (spec_l1DivMag.l4 k m) xs (dg n) (dg R) (i : Int) q) ?_ (fun _ _ => by rw [e]; rfl)
    unfold spec_l1DivMag.s4
    simp only [decide_eq_true_eq, ge_iff_le, if_pos f1, if_pos f2, rd_get hi1, f3, if_true]
    refine Lv.bind e2 ?_
    refine Lv.bind e4.ev ?_
    simp only [w]
    exact e3
theorem div_dg {x n : Nat} (hx : x < 10000000000000000) (hn : n < 1000000000000) (h0 : 0 < n) : ∃ q, Ev (fun k => spec_l1DivMag.f k (dg x) (dg n)) (q, dg (x % n), ()) ∧ DG q ∧ q.length ≤ 4 ∧ val q = ((x / n : Nat) : Int) := by
  have lx := dg_len16 hx
  obtain ⟨q, R, e, h1, h2, h3, h4⟩ := div_l4 (dg_DG x) (by omega) hn h0 (dg x).length (List.replicate (dg x).length 0) 0 (Nat.le_refl _) (by simp) (DG_zero _) (fun j h _ => by simp) h0 (by rw [List.drop_length, List.drop_of_length_le (by simp)]; simp [val])
  rw [dg_val] at h4
  have nn := val_nn h1
  have hq : x = n * (val q).toNat + R := by
    have : (x : Int) = ((n * (val q).toNat + R : Nat) : Int) := by
      rw [h4, Int.natCast_add, Int.natCast_mul, Int.toNat_of_nonneg nn, Int.mul_comm]
    exact Int.ofNat.inj this
  have hd : x / n = (val q).toNat := by rw [hq, Nat.mul_add_div h0, Nat.div_eq_of_lt h3, Nat.add_zero]
  have hm : x % n = R := by rw [hq, Nat.mul_add_mod, Nat.mod_eq_of_lt h3]
  refine ⟨q, ?_, h1, by omega, by rw [hd]; omega⟩
  rw [hm]
  have w : W (((dg x).length : Int) - 1) = ((dg x).length : Int) - 1 := W_id (by omega) (by omega)
  have key : Ev (fun k => (spec_l1DivMag.l4 k k (dg x) (dg n) [] (((dg x).length : Int) - 1) (List.replicate (dg x).length 0)).bind fun x9 => some (x9.2.1, x9.1.2.1, ())) (q, dg R, ()) := by
    rw [dg_zero] at e
    exact Ev.bind e.ev (.now fun _ => rfl)
  refine key.congr fun k => ?_
  unfold spec_l1DivMag.f
  rw [if_pos (by omega), Int.toNat_natCast, if_pos (lt47_of (by omega)), w]; rfl
theorem gcd_l1 : ∀ (y x : Nat), x < 1000000000000 → y < 1000000000000 → Lv (fun k m => spec_l1Gcd.l1 k m (dg x) (dg y)) ((dg (Nat.gcd x y), ()), ()) := by
  intro y
  induction y using Nat.strongRecOn with
  | _ y ih =>
    intro x hx hy
    refine Lv.step (g := fun k m => spec_l1Gcd.s1 k (spec_l1Gcd.l1 k m) (dg x) (dg y)) ?_ (fun _ _ => rfl)
    unfold spec_l1Gcd.s1
    simp only [decide_eq_true_eq]
    by_cases h : y = 0
    · subst h
      refine .now fun k m => ?_
      rw [dg_zero, if_neg (by simp), Nat.gcd_zero_right]
    · obtain ⟨q, e, _, _, _⟩ := div_dg (x := x) (n := y) (by omega) hy (by omega)
      have hlt := Nat.mod_lt x (show y > 0 by omega)
      have nx := ih (x % y) hlt y hy (by omega)
      rw [show Nat.gcd y (x % y) = Nat.gcd x y from by rw [Nat.gcd_comm x y, Nat.gcd_rec y x]; exact Nat.gcd_comm _ _] at nx
      have hne : dg y ≠ [] := fun q => h (dg_ne.mp q)
      have hpos : ((dg y).length : Int) > 0 := by have := List.length_pos_iff.mpr hne; omega
      simp only [if_pos hpos]
      exact Lv.bind e nx
theorem Gcd_ev {s1 s2 : Bool} {x y : Nat} (hx : x < 1000000000000) (hy : y < 1000000000000) (h1 : s1 = true → x ≠ 0) (h2 : s2 = true → y ≠ 0) : Ev (fun k => spec_Gcd.f k ⟨s1, dg x⟩ ⟨s2, dg y⟩) ⟨false, dg (Nat.gcd x y)⟩ := by
  have hg := gcd_lt hx hy
  have e4 := l1Num_ev (neg := false) (dg_DG (Nat.gcd x y)) (Nat.le_trans (dg_len12 hg) (by omega))
  rw [numV_dg, Bool.false_and] at e4
  unfold spec_Gcd.f
  refine Ev.bind (mag_dg (by omega) h1) ?_
  refine Ev.bind (mag_dg (by omega) h2) ?_
  refine Ev.bind (a := dg (Nat.gcd x y)) (Ev.bind (gcd_l1 y x hx hy).ev (.now fun _ => rfl)) ?_
  exact Ev.bind e4 (.now fun _ => rfl)
theorem gcdS_step {L : List Nm} {x : Int} {g i : Nat} {b : Nm} {v : spec_l3NumGcd.B3} (hi : i < L.length) (hL : L.length ≤ 100) (e : rd L (i : Int) = nm x) (hx : x.natAbs < 1000000000000) (hg : g < 1000000000000)
    (h : Lv (fun k m => spec_l3NumGcd.l3 k m L ((i + 1 : Nat) : Int) b ⟨false, dg (Nat.gcd g x.natAbs)⟩) v) : Lv (fun k m => spec_l3NumGcd.l3 k m L (i : Int) b ⟨false, dg g⟩) v := by
  have key := Gcd_ev (s1 := false) (s2 := decide (x < 0)) (x := g) (y := x.natAbs) hg hx (by simp) (by simp; omega)
  have f1 : (i : Int) < (L.length : Int) := by omega
  have f0 : (0 : Int) ≤ (i : Int) := by omega
  have w : W ((i : Int) + 1) = ((i + 1 : Nat) : Int) := by rw [W_id (by omega) (by omega)]; omega
  refine Lv.step (g := fun k m => spec_l3NumGcd.s3 k (spec_l3NumGcd.l3 k m) L (i : Int) b ⟨false, dg g⟩) ?_ (fun _ _ => rfl)
  unfold spec_l3NumGcd.s3
  simp only [decide_eq_true_eq, if_pos f1, if_pos f0, e, w]
  exact Lv.bind key h
theorem gcdS_end {L : List Nm} {x b : Nm} : Lv (fun k m => spec_l3NumGcd.l3 k m L (L.length : Int) b x) (((), (), ()), (b, x, ())) := by
  refine Lv.step (g := fun k m => spec_l3NumGcd.s3 k (spec_l3NumGcd.l3 k m) L (L.length : Int) b x) ?_ (fun _ _ => rfl)
  refine .now fun k m => ?_
  simp only [spec_l3NumGcd.s3, decide_eq_true_eq]
  rw [if_neg (by omega)]
theorem NumGcd_ev {a b c d : Int} (ha : a.natAbs < 1000000000000) (hb : b.natAbs < 1000000000000) (hc : c.natAbs < 1000000000000) (hd : d.natAbs < 1000000000000) :
    Ev (fun k => spec_l3NumGcd.f k [nm a, nm b, nm c, nm d]) ⟨false, dg (g4 a b c d)⟩ := by
  have e0 := Of_ev (x := 0) (by decide)
  have q1 := gcd_lt (x := 0) (by omega) ha
  have q2 := gcd_lt q1 hb
  have q3 := gcd_lt q2 hc
  unfold spec_l3NumGcd.f
  refine Ev.bind e0 ?_
  have key : Lv (fun k m => spec_l3NumGcd.l3 k m [nm a, nm b, nm c, nm d] ((0 : Nat) : Int) ⟨false, []⟩ ⟨false, dg 0⟩) (((), (), ()), (⟨false, []⟩, ⟨false, dg (g4 a b c d)⟩, ())) :=
    gcdS_step (i := 0) (by simp) (by simp) rfl ha (by decide) (gcdS_step (i := 1) (by simp) (by simp) rfl hb q1 (gcdS_step (i := 2) (by simp) (by simp) rfl hc q2 (gcdS_step (i := 3) (by simp) (by simp) rfl hd q3 gcdS_end)))
  exact Ev.bind key.ev (.now fun _ => rfl)
theorem small_l6 {D : List Int} (hD : DG D) (hl : D.length ≤ 4) {b : Nm} : ∀ (i : Nat) (acc : Int), i ≤ D.length → 0 ≤ acc → acc * P i + val (D.take i) < 1000000000000000 →
    Lv (fun k m => spec_Small.l6 k m D acc ((i : Int) - 1) b) (.inr (((), acc * P i + val (D.take i), ()), (b, ()))) := by
  intro i
  induction i with
  | zero =>
    intro acc _ h0 _
    refine Lv.step (g := fun k m => spec_Small.s6 k (spec_Small.l6 k m) D acc (((0 : Nat) : Int) - 1) b) ?_ (fun _ _ => rfl)
    refine .now fun k m => ?_
    simp only [spec_Small.s6, decide_eq_true_eq, P_zero, Int.mul_one, List.take_zero, val, Int.add_zero]
    rw [if_neg (by omega)]
  | succ i ih =>
    intro acc hi h0 hb
    have hi1 : i < D.length := by omega
    have hp : 0 ≤ D[i] ∧ D[i] ≤ 9999 := hD _ (List.getElem_mem hi1)
    have e : (((i + 1 : Nat) : Int) - 1) = (i : Int) := by omega
    have hs : acc * P (i + 1) + val (D.take (i + 1)) = (acc * 10000 + D[i]) * P i + val (D.take i) := by
      rw [val_take_succ hi1, P_succ]; grind
    rw [hs] at hb ⊢
    have hn := val_nn (hD.take i)
    have b1 := horner_bd (by omega) (P_one_le i) hn hb
    have nx := ih (acc * 10000 + D[i]) (by omega) (by omega) hb
    clear ih hs hb hn
    have u1 : U (U (acc * 10000) + U D[i]) = acc * 10000 + D[i] := by
      rw [U_id (n := acc * 10000) (by omega) (by omega), U_id (n := D[i]) (by omega) (by omega), U_id (by omega) (by omega)]
    refine Lv.step (g := fun k m => spec_Small.s6 k (spec_Small.l6 k m) D acc (i : Int) b) ?_ (fun _ _ => by rw [e]; rfl)
    refine nx.congr fun k m => ?_
    simp only [spec_Small.s6, decide_eq_true_eq, rd_get hi1, u1]
    rw [if_pos (by omega), if_neg (by omega), if_pos (by omega), if_pos (by omega), W_id (by omega) (by omega)]
theorem small_ev {neg : Bool} {n : Nat} (hn : n < 1000000000000) (hneg : neg = true → n ≠ 0) : Ev (fun k => spec_Small.f k ⟨neg, dg n⟩) (if neg = true then -(n : Int) else (n : Int), true, ()) := by
  have ln := dg_len12 hn
  have hs := sign_dg (n := n) (by omega) hneg
  have key := small_l6 (dg_DG n) (by omega) (b := ⟨neg, dg n⟩) (dg n).length 0 (Nat.le_refl _) (by omega) (by rw [List.take_length, dg_val]; omega)
  rw [List.take_length, dg_val, Int.zero_mul, Int.zero_add] at key
  have w : W (((dg n).length : Int) - 1) = ((dg n).length : Int) - 1 := W_id (by omega) (by omega)
  have h5 : ¬ (((dg n).length : Int) > 5) := by omega
  unfold spec_Small.f
  refine Ev.bind (mag_dg (n := n) (by omega) hneg) ?_
  simp only [decide_eq_true_eq, if_neg h5, w]
  refine Ev.bind key.ev ?_
  refine Ev.bind hs (.now fun k => ?_)
  dsimp only
  cases neg
  · show (if false = true then _ else _) = _
    rw [if_neg (by simp), if_neg (by omega), W_id (by omega) (by omega), if_neg (by simp)]
  · have := hneg rfl
    rw [if_pos rfl, if_neg (by omega), U_id (by omega) (by omega), W_id (x := (n : Int) - 1) (by omega) (by omega), W_id (x := 0 - ((n : Int) - 1)) (by omega) (by omega), W_id (by omega) (by omega), if_pos rfl]
    congr 2; omega
theorem pv_sg (x : Int) (G : Nat) : (if (decide (x < 0) && decide (((x.natAbs / G : Nat) : Int) ≠ 0)) = true then -((x.natAbs / G : Nat) : Int) else ((x.natAbs / G : Nat) : Int)) = pv x G := by
  unfold pv
  generalize x.natAbs / G = z
  by_cases c : x < 0
  · by_cases cz : z = 0
    · subst cz; simp
    · rw [if_pos c, if_pos (by simp [c]; omega)]
  · rw [if_neg c, if_neg (by simp [c])]
theorem prim_step {L : List Nm} {acc : List Int} {i G : Nat} {x : Int} {b8 : S4} {v : spec_Primitive.B7} (hi : i < 4) (hL : L.length = 4) (e : rd L (i : Int) = nm x) (hx : x.natAbs < 1000000000000) (hG : 0 < G) (hG2 : G < 1000000000000) (ha : acc.length ≤ 4)
    (h : (-500 ≤ pv x G ∧ pv x G ≤ 500) → Lv (fun k m => spec_Primitive.l7 k m L ((i + 1 : Nat) : Int) b8 ⟨false, dg G⟩ (acc ++ [pv x G])) v) (h' : ¬(-500 ≤ pv x G ∧ pv x G ≤ 500) → v = .inl (((), 2, ()), (⟨0, 0, 0, 0⟩, ()))) : Lv (fun k m => spec_Primitive.l7 k m L (i : Int) b8 ⟨false, dg G⟩ acc) v := by
  obtain ⟨q, e1, q1, q2, q3⟩ := div_dg (x := x.natAbs) (n := G) (by omega) hG2 hG
  have hlt : x.natAbs / G < 1000000000000 := Nat.lt_of_le_of_lt (Nat.div_le_self _ _) hx
  have e2 := l1Num_ev (neg := decide (x < 0)) q1 (by omega)
  rw [numV, q3, Int.toNat_natCast] at e2
  have e3 := small_ev (neg := decide (x < 0) && decide (((x.natAbs / G : Nat) : Int) ≠ 0)) (n := x.natAbs / G) hlt (fun h e => by rw [Bool.and_eq_true] at h; exact of_decide_eq_true h.2 (by rw [e]; rfl))
  rw [pv_sg] at e3
  have f1 : (i : Int) < 4 := by omega
  have f2 : (i : Int) < (L.length : Int) := by omega
  have f0 : (0 : Int) ≤ (i : Int) := by omega
  have w : W ((i : Int) + 1) = ((i + 1 : Nat) : Int) := by rw [W_id (by omega) (by omega)]; omega
  have f3 : lt47 (acc.length + ([pv x G] : List Int).length) = true := lt47_of (by rw [List.length_singleton]; omega)
  refine Lv.step (g := fun k m => spec_Primitive.s7 k (spec_Primitive.l7 k m) L (i : Int) b8 ⟨false, dg G⟩ acc) ?_ (fun _ _ => rfl)
  unfold spec_Primitive.s7
  simp only [decide_eq_true_eq, if_pos f1, if_pos f0, if_pos f2, e, nm, w]
  refine Lv.bind e1 ?_
  refine Lv.bind e2 ?_
  refine Lv.bind e3 ?_
  simp only [l1In_f, Option.bind_some, Bool.not_true, Bool.false_eq_true, if_false]
  by_cases c : -500 ≤ pv x G ∧ pv x G ≤ 500
  · simp only [decide_eq_true c, Bool.not_true, Bool.false_eq_true, if_false, f3, if_true]
    exact h c
  · rw [h' c]
    simp only [decide_eq_false c, Bool.not_false, if_true]
    exact .now fun _ _ => rfl
def inC (x : Int) : Prop := -500 ≤ x ∧ x ≤ 500
instance (x : Int) : Decidable (inC x) := by unfold inC; infer_instance
def primV (a b c d : Int) (G : Nat) : S4 × Int × Unit := if inC (pv a G) ∧ inC (pv b G) ∧ inC (pv c G) ∧ inC (pv d G) then (⟨pv a G, pv b G, pv c G, pv d G⟩, 0, ()) else (⟨0, 0, 0, 0⟩, 2, ())
def primR (a b c d : Int) (G : Nat) : spec_Primitive.B7 := if inC (pv a G) ∧ inC (pv b G) ∧ inC (pv c G) ∧ inC (pv d G) then .inr (((), (), ()), (⟨0, 0, 0, 0⟩, [pv a G, pv b G, pv c G, pv d G], ())) else .inl (((), 2, ()), (⟨0, 0, 0, 0⟩, ()))
theorem Primitive_ev {a b c d : Int} (ha : a.natAbs < 1000000000000) (hb : b.natAbs < 1000000000000) (hc : c.natAbs < 1000000000000) (hd : d.natAbs < 1000000000000) (hz : ¬(a = 0 ∧ b = 0 ∧ c = 0)) :
    Ev (fun k => spec_Primitive.f k a b c d) (primV a b c d (g4 a b c d)) := by
  have q1 := gcd_lt (x := 0) (by omega) ha
  have q2 := gcd_lt q1 hb
  have q3 := gcd_lt q2 hc
  have q4 : g4 a b c d < 1000000000000 := gcd_lt q3 hd
  have qp : 0 < g4 a b c d := by
    refine Nat.pos_of_ne_zero (fun e => hz ?_)
    have e1 := Nat.eq_zero_of_gcd_eq_zero_left e
    have e2 := Nat.eq_zero_of_gcd_eq_zero_left e1
    have e3 := Nat.eq_zero_of_gcd_eq_zero_left e2
    have f1 := Nat.eq_zero_of_gcd_eq_zero_right e1
    have f2 := Nat.eq_zero_of_gcd_eq_zero_right e2
    have f3 := Nat.eq_zero_of_gcd_eq_zero_right e3
    omega
  have eg := NumGcd_ev ha hb hc hd
  generalize g4 a b c d = G at *
  have loop : Lv (fun k m => spec_Primitive.l7 k m [nm a, nm b, nm c, nm d] ((0 : Nat) : Int) ⟨0, 0, 0, 0⟩ ⟨false, dg G⟩ []) (primR a b c d G) := by
    refine prim_step (i := 0) (by omega) rfl rfl ha qp q4 (by simp) (fun c0 => ?_) (fun c0 => if_neg (fun h => c0 h.1))
    refine prim_step (i := 1) (by omega) rfl rfl hb qp q4 (by simp) (fun c1 => ?_) (fun c1 => if_neg (fun h => c1 h.2.1))
    refine prim_step (i := 2) (by omega) rfl rfl hc qp q4 (by simp) (fun c2_ => ?_) (fun c2_ => if_neg (fun h => c2_ h.2.2.1))
    refine prim_step (i := 3) (by omega) rfl rfl hd qp q4 (by simp) (fun c3_ => ?_) (fun c3_ => if_neg (fun h => c3_ h.2.2.2))
    rw [show primR a b c d G = _ from if_pos ⟨c0, c1, c2_, c3_⟩]
    refine Lv.step (g := fun k m => spec_Primitive.s7 k (spec_Primitive.l7 k m) [nm a, nm b, nm c, nm d] ((4 : Nat) : Int) ⟨0, 0, 0, 0⟩ ⟨false, dg G⟩ [pv a G, pv b G, pv c G, pv d G]) ?_ (fun _ _ => rfl)
    refine .now fun k m => ?_
    simp only [spec_Primitive.s7, decide_eq_true_eq]
    rw [if_neg (by omega)]
  have rest : ∀ (F : Nat → Option (S4 × Int × Unit)), (∀ k, F k = (spec_Of.f k a).bind fun t1 => (spec_Of.f k b).bind fun t2 => (spec_Of.f k c).bind fun t3 => (spec_Of.f k d).bind fun t4 => (spec_l3NumGcd.f k [t1, t2, t3, t4]).bind fun t5 => (spec_Primitive.l7 k k [t1, t2, t3, t4] 0 ⟨0, 0, 0, 0⟩ t5 []).bind fun | .inl r10 => (some (r10.2.1, r10.1.2.1, ())) | .inr x11 => (if 0 ≤ 0 then (if 0 < (x11.2.2.1.length : Int) then (if (0 : Int).toNat < x11.2.2.1.length then (if 0 ≤ 1 then (if 1 < (x11.2.2.1.length : Int) then (if (1 : Int).toNat < x11.2.2.1.length then (if 0 ≤ 2 then (if 2 < (x11.2.2.1.length : Int) then (if (2 : Int).toNat < x11.2.2.1.length then (if 0 ≤ 3 then (if 3 < (x11.2.2.1.length : Int) then (if (3 : Int).toNat < x11.2.2.1.length then (some ((⟨(x11.2.2.1.getD ((0 : Int).toNat) default), (x11.2.2.1.getD ((1 : Int).toNat) default), (x11.2.2.1.getD ((2 : Int).toNat) default), (x11.2.2.1.getD ((3 : Int).toNat) default)⟩ : S4), 0, ())) else none) else none) else none) else none) else none) else none) else none) else none) else none) else none) else none) else none)) → Ev F (primV a b c d G) := fun F hF => by
    refine Ev.congr ?_ hF
    refine Ev.bind (Of_ev (by omega)) ?_
    refine Ev.bind (Of_ev (by omega)) ?_
    refine Ev.bind (Of_ev (by omega)) ?_
    refine Ev.bind (Of_ev (by omega)) ?_
    refine Ev.bind eg ?_
    refine Ev.bind loop.ev (.now fun k => ?_)
    unfold primR primV
    by_cases g : inC (pv a G) ∧ inC (pv b G) ∧ inC (pv c G) ∧ inC (pv d G)
    · simp only [if_pos g]
      simp
    · simp only [if_neg g]
  by_cases c1 : a = 0
  · by_cases c2_ : b = 0
    · have c3_ : c ≠ 0 := fun h => hz ⟨c1, c2_, h⟩
      exact rest _ fun k => by
        unfold spec_Primitive.f
        simp only [eq_iff]
        rw [if_pos c1, if_pos c2_, if_neg c3_]; rfl
    · exact rest _ fun k => by
        unfold spec_Primitive.f
        simp only [eq_iff]
        rw [if_pos c1, if_neg c2_]; rfl
  · exact rest _ fun k => by
      unfold spec_Primitive.f
      simp only [eq_iff]
      rw [if_neg c1]; rfl
end Go.Proofs.YtalkkenkeilmpaaGreat.Q
