/- Long numbers of the reference: one number made of digits; of an int; right; compared; guessed; less; times. -/
import Derived.Test.YtalkkenkeilmpaaGreatN0
namespace Go.Proofs.YtalkkenkeilmpaaGreat.Q
open Go Go.RowKit Go.Proofs Go.Proofs.YtalkkenkeilmpaaGreat.Ev Go.Proofs.YtalkkenkeilmpaaGreat.G
set_option linter.unusedSimpArgs false
set_option linter.unusedVariables false

theorem U_id {n : Int} (h0 : 0 ≤ n) (h1 : n < 18446744073709551616) : U n = n := by
  simp [U, IntKind.wrap, IntKind.bits, IntKind.signed]; omega
theorem rd_get {l : List Int} {i : Nat} (h : i < l.length) : rd l (i : Int) = l[i] := by simp [rd, List.getD_eq_getElem?_getD, h]
theorem getD_get {l : List Int} {i : Nat} (h : i < l.length) : l.getD i default = l[i] := by simp [List.getD_eq_getElem?_getD, h]
theorem lt47_of {n : Nat} (h : n < 2199023255552) : lt47 n = true := lt47_iff.2 h
def numV (neg : Bool) (d : List Int) : Nm := ⟨neg && decide (val d ≠ 0), dg (val d).toNat⟩
def strip (d : List Int) : Nat → Nat
  | 0 => 0
  | m + 1 => if d.getD m 0 = 0 then strip d m else m + 1
theorem strip_le (d : List Int) : ∀ m, strip d m ≤ m
  | 0 => Nat.le_refl _
  | m + 1 => by have := strip_le d m; unfold strip; split <;> omega
theorem strip_take {d : List Int} (hd : DG d) : ∀ m, m ≤ d.length → d.take (strip d m) = dg (val (d.take m)).toNat ∧ (0 < strip d m ↔ val (d.take m) ≠ 0)
  | 0, _ => by simp [strip, val, dg_zero]
  | m + 1, hm => by
    have hm' : m < d.length := by omega
    have ih := strip_take hd m (by omega)
    have hv := val_take_succ hm'
    have hg : d.getD m 0 = d[m] := by simp [List.getD_eq_getElem?_getD, hm']
    unfold strip
    by_cases c : d[m] = 0
    · rw [if_pos (by rw [hg]; exact c), hv, c, Int.mul_zero, Int.add_zero]; exact ih
    · rw [if_neg (by rw [hg]; exact c)]
      have hp : 0 ≤ d[m] ∧ d[m] ≤ 9999 := hd _ (List.getElem_mem hm')
      have hn := val_nn (hd.take m)
      have hP := P_pos m
      have hpos : 0 < P m * d[m] := Int.mul_pos hP (by omega)
      have e2 : dg (val (d.take (m + 1))).toNat = d.take (m + 1) := by
        refine dg_of (hd.take _) (fun h => ?_)
        have e3 : (d.take (m + 1)).length - 1 = m := by rw [List.length_take]; omega
        rw [List.getLast_eq_getElem, List.getElem_take]; simp only [e3]; exact c
      exact ⟨e2.symm, fun _ => by omega, fun _ => by omega⟩
theorem l1Num_l2 {neg : Bool} {d : List Int} {b : Nm} (hl : d.length ≤ 1000) : ∀ m : Nat, m ≤ d.length → Lv (fun k n => spec_l1Num.l2 k n neg d (m : Int) b) ((neg, d, (), (strip d m : Int), ()), (b, ()))
  | 0, _ => by
    refine Lv.step (g := fun k n => spec_l1Num.s2 k (spec_l1Num.l2 k n) neg d ((0 : Nat) : Int) b) ?_ (fun _ _ => rfl)
    refine .now fun k n => ?_
    simp only [spec_l1Num.s2, decide_eq_true_eq]
    rw [if_neg (by omega)]; rfl
  | m + 1, hm => by
    have hm' : m < d.length := by omega
    have w : W (((m + 1 : Nat) : Int) - 1) = (m : Int) := by rw [W_id (by omega) (by omega)]; omega
    refine Lv.step (g := fun k n => spec_l1Num.s2 k (spec_l1Num.l2 k n) neg d ((m + 1 : Nat) : Int) b) ?_ (fun _ _ => rfl)
    have hg : d.getD m 0 = d[m] := by simp [List.getD_eq_getElem?_getD, hm']
    simp only [spec_l1Num.s2, decide_eq_true_eq, w, eq_iff, rd_get hm']
    by_cases c : d[m] = 0
    · rw [show strip d (m + 1) = strip d m from if_pos (by rw [hg]; exact c)]
      refine (l1Num_l2 hl m (by omega)).congr fun k n => ?_
      rw [if_pos (by omega), if_pos (by omega), if_pos (by omega), if_pos c]
    · rw [show strip d (m + 1) = m + 1 from if_neg (by rw [hg]; exact c)]
      refine .now fun k n => ?_
      rw [if_pos (by omega), if_pos (by omega), if_pos (by omega), if_neg c]
theorem l1Num_ev {neg : Bool} {d : List Int} (hd : DG d) (hl : d.length ≤ 1000) : Ev (fun k => spec_l1Num.f k neg d) (numV neg d) := by
  unfold spec_l1Num.f
  refine Ev.bind (l1Num_l2 (neg := neg) (b := ⟨false, []⟩) hl d.length (Nat.le_refl _)).ev (.now fun k => ?_)
  have hs := strip_le d d.length
  obtain ⟨e1, e2⟩ := strip_take hd d.length (Nat.le_refl _)
  rw [List.take_length] at e1 e2
  have hle : (d.take (strip d d.length)).length ≤ 1000 := by rw [List.length_take]; omega
  have hlt : lt47 (([] : List Int).length + (d.take (strip d d.length)).length) = true := lt47_of (by rw [List.length_nil]; omega)
  simp only [Int.toNat_natCast, hlt, if_true, List.nil_append]
  rw [e1]
  have hd1 : decide ((strip d d.length : Int) > 0) = decide (val d ≠ 0) := decide_eq_decide.mpr ⟨fun h => e2.1 (by omega), fun h => by have := e2.2 h; omega⟩
  cases neg
  · rw [if_neg (by simp), if_pos (by omega), if_pos (by omega)]; rfl
  · rw [if_pos rfl, if_pos (by omega), if_pos (by omega), hd1]; rfl
theorem Of_l5 {x : Int} {b : Nm} : ∀ (n : Nat) (acc : List Int), n < 9223372036854775809 → acc.length + (dg n).length ≤ 900 → Lv (fun k m => spec_Of.l5 k m x (n : Int) b acc) ((x, (), (), ()), (b, acc ++ dg n, ())) := by
  intro n
  induction n using Nat.strongRecOn with
  | _ n ih =>
    intro acc hn hl
    refine Lv.step (g := fun k m => spec_Of.s5 k (spec_Of.l5 k m) x (n : Int) b acc) ?_ (fun _ _ => rfl)
    simp only [spec_Of.s5, decide_eq_true_eq]
    by_cases h : n = 0
    · subst h
      refine .now fun k m => ?_
      rw [if_neg (by omega), dg_zero, List.append_nil]
    · have hd := dg_pos (show 0 < n by omega)
      rw [hd] at hl ⊢
      rw [List.length_cons] at hl
      rw [show acc ++ ((n % 10000 : Nat) : Int) :: dg (n / 10000) = (acc ++ [((n % 10000 : Nat) : Int)]) ++ dg (n / 10000) by simp]
      refine (ih (n / 10000) (by omega) (acc ++ [((n % 10000 : Nat) : Int)]) (by omega) (by simp; omega)).congr fun k m => ?_
      rw [if_pos (by omega), if_neg (by omega), if_pos (lt47_of (by rw [List.length_singleton]; omega)), if_neg (by omega), tdiv_e (by omega), tmod_e (by omega), U_id (by omega) (by omega), W_id (by omega) (by omega)]
      rfl
theorem numV_dg (neg : Bool) (n : Nat) : numV neg (dg n) = ⟨neg && decide (n ≠ 0), dg n⟩ := by
  simp only [numV, dg_val, Int.toNat_natCast]
  congr 2
  rw [decide_eq_decide]; omega
/-- a number, as its digits -/
def nm (x : Int) : Nm := ⟨decide (x < 0), dg x.natAbs⟩
theorem Of_ev {x : Int} (h : x.natAbs < 10000000000000000) : Ev (fun k => spec_Of.f k x) (nm x) := by
  have key := Of_l5 (x := x) (b := ⟨false, []⟩) x.natAbs [] (by omega) (by have := dg_len16 h; simp; omega)
  rw [List.nil_append] at key
  have e : Ev (fun k => spec_l1Num.f k (decide (x < 0)) (dg x.natAbs)) (nm x) := by
    have := l1Num_ev (neg := decide (x < 0)) (dg_DG x.natAbs) (by have := dg_len16 h; omega)
    rw [numV_dg, show (decide (x < 0) && decide (x.natAbs ≠ 0)) = decide (x < 0) from by rw [Bool.eq_iff_iff]; simp; omega] at this
    exact this
  unfold spec_Of.f
  simp only [decide_eq_true_eq]
  by_cases c : x < 0
  · have hw : U ((U (W (0 - (W (x + 1))))) + 1) = (x.natAbs : Int) := by
      rw [W_id (x := x + 1) (by omega) (by omega), W_id (by omega) (by omega), U_id (n := 0 - (x + 1)) (by omega) (by omega), U_id (by omega) (by omega)]; omega
    simp only [if_pos c, hw]
    exact Ev.bind key.ev (Ev.bind e (.now fun _ => rfl))
  · have hw : U x = (x.natAbs : Int) := by rw [U_id (by omega) (by omega)]; omega
    simp only [if_neg c, hw]
    exact Ev.bind key.ev (Ev.bind e (.now fun _ => rfl))
theorem NumOk_l3 {len : Int} {a : Nm} (he : len = (a.d.length : Int)) (hd : DG a.d) (hl : a.d.length ≤ 100) : ∀ (q i : Nat), a.d.length - i = q → i ≤ a.d.length → Lv (fun k n => spec_NumOk.l3 k n len (i : Int) a) (.inr (((), len, ()), (a, ()))) := by
  intro q
  induction q with
  | zero =>
    intro i hq hi
    refine Lv.step (g := fun k n => spec_NumOk.s3 k (spec_NumOk.l3 k n) len (i : Int) a) ?_ (fun _ _ => rfl)
    refine .now fun k n => ?_
    simp only [spec_NumOk.s3, decide_eq_true_eq]
    rw [if_neg (by omega)]
  | succ q ih =>
    intro i hq hi
    have hi' : i < a.d.length := by omega
    have hp : 0 ≤ a.d[i] ∧ a.d[i] ≤ 9999 := hd _ (List.getElem_mem hi')
    refine Lv.step (g := fun k n => spec_NumOk.s3 k (spec_NumOk.l3 k n) len (i : Int) a) ?_ (fun _ _ => rfl)
    refine (ih (i + 1) (by omega) (by omega)).congr fun k n => ?_
    simp only [spec_NumOk.s3, decide_eq_true_eq]
    rw [if_pos (by omega), if_pos (by omega), if_pos (by omega), if_pos (by omega), rd_get hi', l1In_f, Option.bind_some, decide_eq_true hp, if_neg (by simp), W_id (by omega) (by omega)]; rfl
theorem NumOk_ev {neg : Bool} {n : Nat} (hn : n < 10000000000000000) (hneg : neg = true → n ≠ 0) : Ev (fun k => spec_NumOk.f k ⟨neg, dg n⟩) true := by
  unfold spec_NumOk.f
  have ln := dg_len16 hn
  refine Ev.bind (Lv.ev (f := fun k m => spec_NumOk.l3 k m ((dg n).length : Int) ((0 : Nat) : Int) ⟨neg, dg n⟩) (NumOk_l3 (a := ⟨neg, dg n⟩) rfl (dg_DG n) (by show (dg n).length ≤ 100; omega) (dg n).length 0 rfl (Nat.zero_le _))) (.now fun k => ?_)
  simp only [decide_eq_true_eq, eq_iff]
  rw [if_pos (by omega)]
  by_cases e0 : n = 0
  · subst e0
    have : neg = false := by
      cases neg
      · rfl
      · exact absurd rfl (hneg rfl)
    subst this
    rw [if_pos (by simp [dg_zero]), if_pos (by decide)]
  · have hne : dg n ≠ [] := fun h => e0 (dg_ne.mp h)
    have hp : 0 < (dg n).length := List.length_pos_iff.mpr hne
    have w : W (((dg n).length : Int) - 1) = (((dg n).length - 1 : Nat) : Int) := by rw [W_id (by omega) (by omega)]; omega
    have hr : rd (dg n) (((dg n).length - 1 : Nat) : Int) ≠ 0 := by
      rw [rd_get (by omega)]
      have := dg_last hne
      rwa [List.getLast_eq_getElem] at this
    rw [if_neg (by omega), if_pos (by omega), w, if_pos (by omega), if_pos (by omega)]
    simp [hr]
theorem mag_dg {neg : Bool} {n : Nat} (hn : n < 10000000000000000) (hneg : neg = true → n ≠ 0) : Ev (fun k => spec_l1Mag.f k ⟨neg, dg n⟩) (dg n) := by
  unfold spec_l1Mag.f
  exact Ev.bind (NumOk_ev hn hneg) (.now fun k => if_neg (by simp))
theorem sign_dg {neg : Bool} {n : Nat} (hn : n < 10000000000000000) (hneg : neg = true → n ≠ 0) : Ev (fun k => spec_l1Sign.f k ⟨neg, dg n⟩) neg := by
  unfold spec_l1Sign.f
  exact Ev.bind (NumOk_ev hn hneg) (.now fun k => if_pos rfl)
def cmpI (a b : Int) : Int := if a < b then -1 else if b < a then 1 else 0
def cmpR (a b : Int) : spec_l1CmpMag.B6 := if a < b then .inl ((-1, ()), ()) else if b < a then .inl ((1, ()), ()) else .inr ((), ())
theorem cmp_l6 {xs ys : List Int} (hx : DG xs) (hy : DG ys) (hl : xs.length = ys.length) (hb : xs.length ≤ 1000) : ∀ i : Nat, i ≤ xs.length → Lv (fun k n => spec_l1CmpMag.l6 k n xs ys ((i : Int) - 1)) (cmpR (val (xs.take i)) (val (ys.take i))) := by
  intro i
  induction i with
  | zero =>
    intro _
    refine Lv.step (g := fun k n => spec_l1CmpMag.s6 k (spec_l1CmpMag.l6 k n) xs ys (((0 : Nat) : Int) - 1)) ?_ (fun _ _ => rfl)
    refine .now fun k n => ?_
    simp only [spec_l1CmpMag.s6, decide_eq_true_eq]
    rw [if_neg (by omega)]; rfl
  | succ i ih =>
    intro hi
    have hi1 : i < xs.length := by omega
    have hi2 : i < ys.length := by omega
    have e : (((i + 1 : Nat) : Int) - 1) = (i : Int) := by omega
    have v1 := val_take_succ hi1
    have v2 := val_take_succ hi2
    have lx1 := val_lt (hx.take i); have lx2 := val_lt (hy.take i)
    rw [List.length_take, Nat.min_eq_left (by omega)] at lx1 lx2
    have n1 := val_nn (hx.take i); have n2 := val_nn (hy.take i)
    have hP := P_pos i
    refine Lv.step (g := fun k n => spec_l1CmpMag.s6 k (spec_l1CmpMag.l6 k n) xs ys (i : Int)) ?_ (fun _ _ => by rw [e]; rfl)
    simp only [spec_l1CmpMag.s6, decide_eq_true_eq, ne_iff, rd_get hi1, rd_get hi2]
    by_cases c : xs[i] = ys[i]
    · have ec : cmpR (val (xs.take (i + 1))) (val (ys.take (i + 1))) = cmpR (val (xs.take i)) (val (ys.take i)) := by
        rw [v1, v2, c]; unfold cmpR
        by_cases q1 : val (xs.take i) < val (ys.take i)
        · rw [if_pos q1, if_pos (by omega)]
        · by_cases q2 : val (ys.take i) < val (xs.take i)
          · rw [if_neg q1, if_pos q2, if_neg (by omega), if_pos (by omega)]
          · rw [if_neg q1, if_neg q2, if_neg (by omega), if_neg (by omega)]
      rw [ec]
      refine (ih (by omega)).congr fun k n => ?_
      rw [if_pos (by omega), if_pos (by omega), if_pos (by omega), if_pos (by omega), if_pos (by omega), if_neg (by simpa using c), W_id (by omega) (by omega)]
    · refine .now fun k n => ?_
      rw [if_pos (by omega), if_pos (by omega), if_pos (by omega), if_pos (by omega), if_pos (by omega), if_pos c, if_pos (by omega), if_pos (by omega), if_pos (by omega), if_pos (by omega), v1, v2]
      by_cases g : xs[i] < ys[i]
      · have := Int.mul_le_mul_of_nonneg_left (show xs[i] + 1 ≤ ys[i] by omega) (show 0 ≤ P i by omega)
        rw [Int.mul_add, Int.mul_one] at this
        rw [if_pos g, cmpR, if_pos (by omega)]
      · have := Int.mul_le_mul_of_nonneg_left (show ys[i] + 1 ≤ xs[i] by omega) (show 0 ≤ P i by omega)
        rw [Int.mul_add, Int.mul_one] at this
        rw [if_neg g, cmpR, if_neg (by omega), if_pos (by omega)]
theorem cmp_dg {a b : Nat} (ha : a < 10000000000000000) (hb : b < 10000000000000000) : Ev (fun k => spec_l1CmpMag.f k (dg a) (dg b)) (cmpI (a : Int) (b : Int)) := by
  have la := dg_len16 ha; have lb := dg_len16 hb
  unfold spec_l1CmpMag.f
  simp only [decide_eq_true_eq, ne_iff]
  by_cases h : (dg a).length = (dg b).length
  · have key := cmp_l6 (dg_DG a) (dg_DG b) h (by omega) (dg a).length (Nat.le_refl _)
    rw [List.take_length, h, List.take_length, dg_val, dg_val] at key
    simp only [if_neg (show ¬ (((dg a).length : Int) ≠ ((dg b).length : Int)) by omega)]
    rw [show W (((dg a).length : Int) - 1) = ((dg b).length : Int) - 1 from by rw [W_id (by omega) (by omega), h]]
    refine Ev.bind key.ev (.now fun k => ?_)
    unfold cmpR cmpI
    by_cases q1 : (a : Int) < (b : Int)
    · simp only [if_pos q1]
    · by_cases q2 : (b : Int) < (a : Int)
      · simp only [if_neg q1, if_pos q2]
      · simp only [if_neg q1, if_neg q2]
  · refine .now fun k => ?_
    rw [if_pos (by omega)]
    by_cases g : (dg a).length < (dg b).length
    · have : ¬ b ≤ a := fun q => absurd (dg_mono q) (by omega)
      rw [if_pos (by omega), cmpI, if_pos (by omega)]
    · have : ¬ a ≤ b := fun q => absurd (dg_mono q) (by omega)
      rw [if_neg (by omega), cmpI, if_neg (by omega), if_pos (by omega)]
end Go.Proofs.YtalkkenkeilmpaaGreat.Q
