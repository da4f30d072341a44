/- Long numbers of the reference: the guess, the difference, the product, the quotient. -/
import Derived.Test.YtalkkenkeilmpaaGreatN1
namespace Go.Proofs.YtalkkenkeilmpaaGreat.Q
open Go Go.RowKit Go.Proofs Go.Proofs.YtalkkenkeilmpaaGreat.Ev Go.Proofs.YtalkkenkeilmpaaGreat.G
set_option linter.unusedSimpArgs false
set_option linter.unusedVariables false

theorem guess_l3 {R D : List Int} (hR : DG R) (hl : R.length ≤ 100) (hD : D.length ≤ 3) : ∀ (i : Nat) (acc : Int), i ≤ R.length → 0 ≤ acc → acc * P i + val (R.take i) < 10000000000000000 →
    Lv (fun k n => spec_l1Guess.l3 k n R D acc ((i : Int) - 1)) ((D, acc * P i + val (R.take i), ()), ()) := by
  intro i
  induction i with
  | zero =>
    intro acc _ h0 _
    refine Lv.step (g := fun k n => spec_l1Guess.s3 k (spec_l1Guess.l3 k n) R D acc (((0 : Nat) : Int) - 1)) ?_ (fun _ _ => rfl)
    refine .now fun k n => ?_
    simp only [spec_l1Guess.s3, decide_eq_true_eq, P_zero, Int.mul_one, List.take_zero, val, Int.add_zero]
    rw [if_neg (by omega)]
  | succ i ih =>
    intro acc hi h0 hb
    have hi1 : i < R.length := by omega
    have hp : 0 ≤ R[i] ∧ R[i] ≤ 9999 := hR _ (List.getElem_mem hi1)
    have e : (((i + 1 : Nat) : Int) - 1) = (i : Int) := by omega
    have hs : acc * P (i + 1) + val (R.take (i + 1)) = (acc * 10000 + R[i]) * P i + val (R.take i) := by
      rw [val_take_succ hi1, P_succ]; grind
    rw [hs] at hb ⊢
    have hn := val_nn (hR.take i)
    have b1 := horner_bd (by omega) (P_one_le i) hn hb
    have key := ih (acc * 10000 + R[i]) (by omega) (by omega) hb
    clear ih hs hb hn
    have w1 : W (W (acc * 10000) + R[i]) = acc * 10000 + R[i] := by rw [W_id (x := acc * 10000) (by omega) (by omega), W_id (by omega) (by omega)]
    refine Lv.step (g := fun k n => spec_l1Guess.s3 k (spec_l1Guess.l3 k n) R D acc (i : Int)) ?_ (fun _ _ => by rw [e]; rfl)
    refine key.congr fun k n => ?_
    simp only [spec_l1Guess.s3, decide_eq_true_eq, rd_get hi1, w1]
    rw [if_pos (by omega), W_id (x := (D.length : Int) - 3) (by omega) (by omega), if_pos (by omega), if_pos (by omega), if_pos (by omega), W_id (by omega) (by omega)]
theorem guess_l8 {D : List Int} (hR : DG D) (hD : D.length ≤ 3) {top : Int} : ∀ (i : Nat) (acc : Int), i ≤ D.length → 0 ≤ acc → acc * P i + val (D.take i) < 10000000000000000 →
    Lv (fun k n => spec_l1Guess.l8 k n D top acc ((i : Int) - 1)) ((D, top, acc * P i + val (D.take i), ()), ()) := by
  intro i
  induction i with
  | zero =>
    intro acc _ h0 _
    refine Lv.step (g := fun k n => spec_l1Guess.s8 k (spec_l1Guess.l8 k n) D top acc (((0 : Nat) : Int) - 1)) ?_ (fun _ _ => rfl)
    refine .now fun k n => ?_
    simp only [spec_l1Guess.s8, decide_eq_true_eq, P_zero, Int.mul_one, List.take_zero, val, Int.add_zero]
    rw [if_neg (by omega)]
  | succ i ih =>
    intro acc hi h0 hb
    have hi1 : i < D.length := by omega
    have hp : 0 ≤ D[i] ∧ D[i] ≤ 9999 := hR _ (List.getElem_mem hi1)
    have e : (((i + 1 : Nat) : Int) - 1) = (i : Int) := by omega
    have hs : acc * P (i + 1) + val (D.take (i + 1)) = (acc * 10000 + D[i]) * P i + val (D.take i) := by
      rw [val_take_succ hi1, P_succ]; grind
    rw [hs] at hb ⊢
    have hn := val_nn (hR.take i)
    have b1 := horner_bd (by omega) (P_one_le i) hn hb
    have key := ih (acc * 10000 + D[i]) (by omega) (by omega) hb
    clear ih hs hb hn
    have w1 : W (W (acc * 10000) + D[i]) = acc * 10000 + D[i] := by rw [W_id (x := acc * 10000) (by omega) (by omega), W_id (by omega) (by omega)]
    refine Lv.step (g := fun k n => spec_l1Guess.s8 k (spec_l1Guess.l8 k n) D top acc (i : Int)) ?_ (fun _ _ => by rw [e]; rfl)
    refine key.congr fun k n => ?_
    simp only [spec_l1Guess.s8, decide_eq_true_eq, rd_get hi1, w1]
    rw [if_pos (by omega), W_id (x := (D.length : Int) - 3) (by omega) (by omega), if_pos (by omega), if_pos (by omega), if_pos (by omega), W_id (by omega) (by omega)]
/-- the guess is the quotient -/
theorem guess_dg {m n : Nat} (hm : m < 10000000000000000) (hn : n < 1000000000000) (h0 : 0 < n) (h : n ≤ m) : Ev (fun k => spec_l1Guess.f k (dg m) (dg n)) ((m / n : Nat) : Int) := by
  have lm := dg_len16 hm; have ln := dg_len12 hn
  have q1 : 0 < m / n := Nat.div_pos h h0
  have q2 : m / n ≤ m := Nat.div_le_self _ _
  have k1 := guess_l8 (dg_DG n) ln (top := (m : Int)) (dg n).length 0 (Nat.le_refl _) (by omega) (by rw [List.take_length, dg_val]; omega)
  have k0 := guess_l3 (D := dg n) (dg_DG m) (by omega) ln (dg m).length 0 (Nat.le_refl _) (by omega) (by rw [List.take_length, dg_val]; omega)
  rw [List.take_length, dg_val, Int.zero_mul, Int.zero_add] at k0 k1
  have w0 : W (((dg m).length : Int) - 1) = ((dg m).length : Int) - 1 := W_id (by omega) (by omega)
  have w1 : W (((dg n).length : Int) - 1) = ((dg n).length : Int) - 1 := W_id (by omega) (by omega)
  unfold spec_l1Guess.f
  simp only [w0]
  refine Ev.bind k0.ev ?_
  simp only [w1]
  refine Ev.bind k1.ev (.now fun k => ?_)
  have e : W (Int.tdiv (m : Int) (n : Int)) = ((m / n : Nat) : Int) := by
    have e1 : Int.tdiv (m : Int) (n : Int) = ((m / n : Nat) : Int) := by rw [tdiv_e (by omega)]; rfl
    rw [e1, W_id (by omega) (by omega)]
  simp only [decide_eq_true_eq, e]
  rw [if_neg (by omega), if_neg (by omega), if_pos (by omega), if_neg (by omega)]
theorem sub_l4 {xs ys : List Int} (hx : DG xs) (hy : DG ys) (hb : xs.length ≤ 1000) : ∀ (d i : Nat) (acc : List Int) (c : Int), xs.length - i = d → i ≤ xs.length → acc.length = i → DG acc → (c = 0 ∨ c = 1) → val acc = val (xs.take i) - val (ys.take i) + c * P i →
    ∃ ds, Lv (fun k n => spec_l1SubMag.l4 k n xs ys c (i : Int) acc) (((), ()), (ds, ())) ∧ DG ds ∧ ds.length = xs.length ∧ ∃ c' : Int, (c' = 0 ∨ c' = 1) ∧ val ds = val xs - val (ys.take xs.length) + c' * P xs.length := by
  intro d
  induction d with
  | zero =>
    intro i acc c hd hi hl ha hc hv
    have e : i = xs.length := by omega
    subst e
    rw [List.take_length] at hv
    refine ⟨acc, Lv.step (g := fun k n => spec_l1SubMag.s4 k (spec_l1SubMag.l4 k n) xs ys c (xs.length : Int) acc) (.now fun k n => ?_) (fun _ _ => rfl), ha, hl, c, hc, hv⟩
    simp only [spec_l1SubMag.s4, decide_eq_true_eq]
    rw [if_neg (by omega)]
  | succ d ih =>
    intro i acc c hd hi hl ha hc hv0
    have hv := Aside0.mk hv0
    clear hv0
    have hi1 : i < xs.length := by omega
    have f1 : xs.length - (i + 1) = d := by omega
    have f2 : i + 1 ≤ xs.length := by omega
    have f3 : ∀ x : Int, lt47 (acc.length + [x].length) = true := fun x => lt47_of (by rw [List.length_singleton]; omega)
    have hp : 0 ≤ xs[i] ∧ xs[i] ≤ 9999 := hx _ (List.getElem_mem hi1)
    have hw : W ((i : Int) + 1) = ((i + 1 : Nat) : Int) := by rw [W_id (by omega) (by omega)]; omega
    have wc : W (xs[i] - c) = xs[i] - c := W_id (by omega) (by omega)
    obtain ⟨y, hy0, hyv, hstep⟩ : ∃ y : Int, (0 ≤ y ∧ y ≤ 9999) ∧ Aside0 (val (ys.take (i + 1)) = val (ys.take i) + P i * y) ∧ ∀ k n, spec_l1SubMag.l4 k (n + 1) xs ys c (i : Int) acc = if W (xs[i] - c - y) < 0 then spec_l1SubMag.l4 k n xs ys 1 ((i + 1 : Nat) : Int) (acc ++ [W (W (xs[i] - c - y) + 10000)]) else spec_l1SubMag.l4 k n xs ys 0 ((i + 1 : Nat) : Int) (acc ++ [W (xs[i] - c - y)]) := by
      by_cases g : i < ys.length
      · have hq : 0 ≤ ys[i] ∧ ys[i] ≤ 9999 := hy _ (List.getElem_mem g)
        refine ⟨ys[i], hq, ⟨val_take_succ g⟩, fun k n => ?_⟩
        show spec_l1SubMag.s4 k (spec_l1SubMag.l4 k n) xs ys c (i : Int) acc = _
        simp only [spec_l1SubMag.s4, decide_eq_true_eq, rd_get hi1, rd_get g, wc, f3, if_true, hw]
        rw [if_pos (by omega), if_pos (by omega), if_pos (by omega), if_pos (by omega), if_pos (by omega), if_pos (by omega)]
      · refine ⟨0, by omega, ⟨by rw [List.take_of_length_le (by omega), List.take_of_length_le (by omega), Int.mul_zero, Int.add_zero]⟩, fun k n => ?_⟩
        show spec_l1SubMag.s4 k (spec_l1SubMag.l4 k n) xs ys c (i : Int) acc = _
        simp only [spec_l1SubMag.s4, decide_eq_true_eq, rd_get hi1, wc, f3, if_true, hw, Int.sub_zero]
        rw [if_pos (by omega), if_pos (by omega), if_pos (by omega), if_neg (by omega)]
    have v1 := Aside0.mk (val_take_succ hi1)
    have hlen : Aside0 (P acc.length = P i) := ⟨by rw [hl]⟩
    have wy : W (xs[i] - c - y) = xs[i] - c - y := W_id (by omega) (by omega)
    simp only [wy] at hstep
    by_cases g : xs[i] - c - y < 0
    · have fd : 0 ≤ xs[i] - c - y + 10000 ∧ xs[i] - c - y + 10000 ≤ 9999 := by omega
      have fw : W (xs[i] - c - y + 10000) = xs[i] - c - y + 10000 := W_id (by omega) (by omega)
      obtain ⟨ds, e1, r⟩ := ih (i + 1) (acc ++ [xs[i] - c - y + 10000]) 1 f1 f2 (by simp [hl]) (ha.app (DG.cons fd DG.nil)) (.inr rfl) (by
        rw [val_app, v1.out, hyv.out, hlen.out, hv.out, P_succ]; simp only [val, Int.mul_zero, Int.add_zero]; exact subkey)
      refine ⟨ds, Lv.step e1 (fun k n => ?_), r⟩
      rw [hstep, if_pos g, fw]
    · have fd : 0 ≤ xs[i] - c - y ∧ xs[i] - c - y ≤ 9999 := by omega
      obtain ⟨ds, e1, r⟩ := ih (i + 1) (acc ++ [xs[i] - c - y]) 0 f1 f2 (by simp [hl]) (ha.app (DG.cons fd DG.nil)) (.inl rfl) (by
        rw [val_app, v1.out, hyv.out, hlen.out, hv.out]; simp only [val, Int.mul_zero, Int.add_zero]; exact subkey0)
      refine ⟨ds, Lv.step e1 (fun k n => ?_), r⟩
      rw [hstep, if_neg g]
theorem sub_dg {a b : Nat} (ha : a < 10000000000000000) (h : b ≤ a) : ∃ ds, Ev (fun k => spec_l1SubMag.f k (dg a) (dg b)) ds ∧ DG ds ∧ ds.length ≤ 4 ∧ val ds = ((a - b : Nat) : Int) := by
  have la := dg_len16 ha; have lb := dg_mono h
  obtain ⟨ds, e, h1, h2, c', hc, hv⟩ := sub_l4 (dg_DG a) (dg_DG b) (by omega) (dg a).length 0 [] 0 (by omega) (by omega) rfl DG.nil (.inl rfl) (by simp [val])
  rw [List.take_of_length_le lb, dg_val, dg_val, ← h2] at hv
  have l := val_lt h1
  refine ⟨ds, Ev.bind e.ev (.now fun _ => rfl), h1, by omega, ?_⟩
  rcases hc with rfl | rfl
  · rw [Int.zero_mul] at hv; omega
  · rw [Int.one_mul] at hv; omega
theorem wz_ (i c : Nat) (h : i + c ≤ 1000000) : W ((i : Int) + (c : Int)) = ((i + c : Nat) : Int) := by rw [W_id (by omega) (by omega)]; omega
theorem w9_ {x : Int} (h0 : 0 ≤ x) (h1 : x ≤ 99990000) : W x = x := W_id (by omega) (by omega)
theorem mul_l3 {xs : List Int} (hx : DG xs) (hb : xs.length ≤ 100) {g : Int} (hg : 0 ≤ g ∧ g ≤ 9999) : ∀ (d i : Nat) (out : List Int), xs.length - i = d → i ≤ xs.length → out.length = xs.length + 2 → DG out → (∀ (j : Nat) (h : j < out.length), i + 2 ≤ j → out[j] = 0) → val out = val (xs.take i) * g →
    ∃ ds, Lv (fun k n => spec_l1MulMag.l3 k n xs [g, 0] (i : Int) out) (((), ()), (ds, ())) ∧ DG ds ∧ ds.length = xs.length + 2 ∧ val ds = val xs * g := by
  intro d
  induction d with
  | zero =>
    intro i out hd hi hl ho hz hv
    have e : i = xs.length := by omega
    subst e
    rw [List.take_length] at hv
    refine ⟨out, Lv.step (g := fun k n => spec_l1MulMag.s3 k (spec_l1MulMag.l3 k n) xs [g, 0] (xs.length : Int) out) (.now fun k n => ?_) (fun _ _ => rfl), ho, hl, hv⟩
    simp only [spec_l1MulMag.s3, decide_eq_true_eq]
    rw [if_neg (by omega)]
  | succ d ih =>
    intro i out hd hi hl ho hz hv0
    have hv := Aside0.mk hv0
    clear hv0
    have hi1 : i < xs.length := by omega
    have hp : 0 ≤ xs[i] ∧ xs[i] ≤ 9999 := hx _ (List.getElem_mem hi1)
    have h0 : i < out.length := by omega
    have h1 : i + 1 < out.length := by omega
    have h2 : i + 2 < out.length := by omega
    have o0 : 0 ≤ out[i] ∧ out[i] ≤ 9999 := ho _ (List.getElem_mem h0)
    have o1 : 0 ≤ out[i + 1] ∧ out[i + 1] ≤ 9999 := ho _ (List.getElem_mem h1)
    have o2 : out[i + 2] = 0 := hz (i + 2) h2 (Nat.le_refl _)
    have m0 := mul_bd (x := xs[i]) (y := g) (X := 9999) (Y := 9999) (by omega) (by omega)
    have m1 := Int.mul_nonneg hp.1 hg.1
    obtain ⟨X, hX⟩ : ∃ X, xs[i] * g + out[i] = X := ⟨_, rfl⟩
    obtain ⟨Y, hY⟩ : ∃ Y, out[i + 1] + X / 10000 = Y := ⟨_, rfl⟩
    have bX : 0 ≤ X ∧ X ≤ 99990000 := by omega
    have bY : 0 ≤ Y ∧ Y ≤ 99990000 := by omega
    have bXd : 0 ≤ X / 10000 ∧ X / 10000 ≤ 99990000 := by omega
    have bYd : 0 ≤ Y / 10000 ∧ Y / 10000 ≤ 99990000 := by omega
    have f0 : (0 : Int) ≤ (i : Int) := by omega
    have f1 : (i : Int) < (xs.length : Int) := by omega
    have f2 : (i : Int) < (out.length : Int) := by omega
    have f3 : (0 : Int) ≤ ((i + 1 : Nat) : Int) := by omega
    have f4 : ((i + 1 : Nat) : Int) < (out.length : Int) := by omega
    have f5 : (0 : Int) ≤ ((i + 2 : Nat) : Int) := by omega
    have f6 : ((i + 2 : Nat) : Int) < (out.length : Int) := by omega
    have f7 : xs.length - (i + 1) = d := by omega
    have f8 : i + 1 ≤ xs.length := by omega
    have fb : i + 2 ≤ 1000000 := by omega
    have wz0 : W ((i : Int) + 0) = (i : Int) := wz_ i 0 (Nat.le_trans (Nat.le_add_right i 2) fb)
    have wz00 : W (i : Int) = (i : Int) := by have := wz0; rwa [Int.add_zero] at this
    have wz1 : W ((i : Int) + 1) = ((i + 1 : Nat) : Int) := wz_ i 1 (Nat.le_trans (Nat.le_succ (i + 1)) fb)
    have wz2 : W ((i : Int) + 2) = ((i + 2 : Nat) : Int) := wz_ i 2 fb
    have e00 : W 0 = 0 := wz_ 0 0 (by decide)
    have e01 : W (0 + 1) = 1 := wz_ 0 1 (by decide)
    have e12 : W (1 + 1) = 2 := wz_ 1 1 (by decide)
    have wA : W (xs[i] * g) = xs[i] * g := w9_ m1 (Int.le_trans m0.2 (by decide))
    have wX : W X = X := w9_ bX.1 (Int.le_trans bX.2 (by decide))
    have wXd : W (X / 10000) = X / 10000 := w9_ bXd.1 bXd.2
    have wO : W out[i + 1] = out[i + 1] := w9_ o1.1 (Int.le_trans o1.2 (by decide))
    have wY : W Y = Y := w9_ bY.1 (Int.le_trans bY.2 (by decide))
    have wYd : W (Y / 10000) = Y / 10000 := w9_ bYd.1 bYd.2
    have gl : (([g, 0] : List Int).length : Int) = 2 := rfl
    have gd0 : out.getD i default = out[i] := getD_get h0
    have rr1 : (out.set i (X % 10000)).getD (i + 1) default = out[i + 1] := by
      rw [getD_get (by rw [List.length_set]; exact h1)]; exact List.getElem_set_ne (Nat.ne_of_lt (Nat.lt_succ_self i)) _
    obtain ⟨ds, e1, r⟩ := ih (i + 1) (((out.set i (X % 10000)).set (i + 1) (Y % 10000)).set (i + 2) (Y / 10000)) f7 f8 (by rw [List.length_set, List.length_set, List.length_set]; exact hl) (mul_DG ho bX.1 bY) (fun j h hj => by
      have hj' : j < out.length := by rw [List.length_set, List.length_set, List.length_set] at h; exact h
      have n2 : i + 2 ≠ j := Nat.ne_of_lt hj
      have n1 : i + 1 ≠ j := Nat.ne_of_lt (Nat.lt_of_succ_lt hj)
      have n0 : i ≠ j := Nat.ne_of_lt (Nat.lt_of_succ_lt (Nat.lt_of_succ_lt hj))
      rw [List.getElem_set_ne n2, List.getElem_set_ne n1, List.getElem_set_ne n0]
      exact hz j hj' (Nat.le_of_lt hj)) (mul_row h0 h1 h2 ho o2 hi1 hX hY hv.out)
    refine ⟨ds, ?_, r⟩
    clear r
    have inner : Lv (fun k n => spec_l1MulMag.l7 k n xs [g, 0] (i : Int) 0 0 out) ((xs, [g, 0], (), (i : Int), Y / 10000, ()), ((out.set i (X % 10000)).set (i + 1) (Y % 10000), ())) := by
      refine Lv.step (g := fun k n => spec_l1MulMag.l7 k n xs [g, 0] (i : Int) (X / 10000) 1 (out.set i (X % 10000))) ?_ (fun k n => ?_)
      · refine Lv.step (g := fun k n => spec_l1MulMag.l7 k n xs [g, 0] (i : Int) (Y / 10000) 2 ((out.set i (X % 10000)).set (i + 1) (Y % 10000))) ?_ (fun k n => ?_)
        · refine Lv.step (g := fun k n => spec_l1MulMag.s7 k (spec_l1MulMag.l7 k n) xs [g, 0] (i : Int) (Y / 10000) 2 ((out.set i (X % 10000)).set (i + 1) (Y % 10000))) (.now fun k n => ?_) (fun _ _ => rfl)
          simp only [spec_l1MulMag.s7, decide_eq_true_eq, gl]
          rw [if_neg (by decide)]
        · show spec_l1MulMag.s7 k (spec_l1MulMag.l7 k n) xs [g, 0] (i : Int) (X / 10000) 1 (out.set i (X % 10000)) = _
          have f4' : ((i + 1 : Nat) : Int) < ((out.set i (X % 10000)).length : Int) := by rw [List.length_set]; exact f4
          have f4n : i + 1 < (out.set i (X % 10000)).length := by rw [List.length_set]; exact h1
          simp only [spec_l1MulMag.s7, decide_eq_true_eq, gl, wz1, Int.toNat_natCast, rr1, rd_get hi1, show rd [g, 0] 1 = 0 from rfl, Int.mul_zero, e00, Int.zero_add, wO, hY, wY, tmod_e bY.1, tdiv_e bY.1, wYd, e12]
          rw [if_pos (by decide), if_pos f0, if_pos f1, if_pos (by decide), if_pos (by decide), if_pos f3, if_pos f4', if_pos f4n, if_neg (by decide), if_pos f3, if_pos f4', if_pos f4n, if_neg (by decide)]
      · show spec_l1MulMag.s7 k (spec_l1MulMag.l7 k n) xs [g, 0] (i : Int) 0 0 out = _
        simp only [spec_l1MulMag.s7, decide_eq_true_eq, gl, Int.add_zero, wz00, Int.toNat_natCast, gd0, rd_get hi1, show rd [g, 0] 0 = g from rfl, wA, hX, wX, tmod_e bX.1, tdiv_e bX.1, wXd, e01]
        rw [if_pos (by decide), if_pos f0, if_pos f1, if_pos (by decide), if_pos (by decide), if_pos f0, if_pos f2, if_pos h0, if_neg (by decide), if_pos f0, if_pos f2, if_pos h0, if_neg (by decide)]
    refine Lv.step (g := fun k n => spec_l1MulMag.s3 k (spec_l1MulMag.l3 k n) xs [g, 0] (i : Int) out) ?_ (fun _ _ => rfl)
    simp only [spec_l1MulMag.s3, decide_eq_true_eq, if_pos f1]
    refine Lv.bind inner.ev (e1.congr fun k n => ?_)
    have f6' : ((i + 2 : Nat) : Int) < (((out.set i (X % 10000)).set (i + 1) (Y % 10000)).length : Int) := by rw [List.length_set, List.length_set]; exact f6
    have f6n : i + 2 < ((out.set i (X % 10000)).set (i + 1) (Y % 10000)).length := by rw [List.length_set, List.length_set]; exact h2
    simp only [gl, wz2, wz1, Int.toNat_natCast]
    rw [if_pos f5, if_pos f6', if_pos f6n]
theorem mul_dg {n : Nat} (hn : n < 1000000000000) {g : Int} (hg : 0 ≤ g ∧ g ≤ 9999) : ∃ ds, Ev (fun k => spec_l1MulMag.f k (dg n) [g, 0]) ds ∧ DG ds ∧ ds.length ≤ 5 ∧ val ds = (n : Int) * g := by
  have ln := dg_len12 hn
  obtain ⟨ds, e, h1, h2, h3⟩ := mul_l3 (dg_DG n) (by omega) hg (dg n).length 0 (List.replicate ((dg n).length + 2) 0) (by omega) (by omega) (by simp) (DG_zero _) (fun j h _ => by simp) (by rw [val_zeros]; simp [val])
  rw [dg_val] at h3
  refine ⟨ds, ?_, h1, by omega, h3⟩
  have w : W (((dg n).length : Int) + (([g, 0] : List Int).length : Int)) = (((dg n).length + 2 : Nat) : Int) := by
    rw [show (([g, 0] : List Int).length : Int) = 2 from rfl, W_id (by omega) (by omega)]; omega
  unfold spec_l1MulMag.f
  simp only [w, Int.toNat_natCast]
  have key : Ev (fun k => (spec_l1MulMag.l3 k k (dg n) [g, 0] ((0 : Nat) : Int) (List.replicate ((dg n).length + 2) 0)).bind fun x2 => some x2.2.1) ds := Ev.bind e.ev (.now fun _ => rfl)
  refine key.congr fun k => ?_
  rw [if_pos (by omega), if_pos (lt47_of (by omega))]; rfl
end Go.Proofs.YtalkkenkeilmpaaGreat.Q
