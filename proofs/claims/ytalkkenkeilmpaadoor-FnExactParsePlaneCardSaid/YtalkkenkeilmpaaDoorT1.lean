/- Picked out of other texts. -/
import Derived.Test.YtalkkenkeilmpaaDoorN0
namespace Go.Proofs.YtalkkenkeilmpaaDoor.Q
open Go Go.RowKit Go.Proofs Go.Proofs.YtalkkenkeilmpaaDoor.Ev Go.Proofs.YtalkkenkeilmpaaDoor.G
set_option linter.unusedSimpArgs false
set_option linter.unusedVariables false

theorem U_id {n : Int} (h0 : 0 ≤ n) (h1 : n < 18446744073709551616) : U n = n := by
  simp [U, IntKind.wrap, IntKind.bits, IntKind.signed]; omega
theorem rd_get {l : List Int} {i : Nat} (h : i < l.length) : rd l (i : Int) = l[i] := by simp [rd, List.getD_eq_getElem?_getD, h]
theorem getD_get {l : List Int} {i : Nat} (h : i < l.length) : l.getD i default = l[i] := by simp [List.getD_eq_getElem?_getD, h]
theorem lt47_of {n : Nat} (h : n < 2199023255552) : lt47 n = true := lt47_iff.2 h
def numV (neg : Bool) (d : List Int) : Nm := ⟨neg && decide (val d ≠ 0), dg (val d).toNat⟩
def strip (d : List Int) : Nat → Nat
  | 0 => 0
  | m + 1 => if d.getD m 0 = 0 then strip d m else m + 1
theorem strip_le (d : List Int) : ∀ m, strip d m ≤ m
  | 0 => Nat.le_refl _
  | m + 1 => by have := strip_le d m; unfold strip; split <;> omega
theorem strip_take {d : List Int} (hd : DG d) : ∀ m, m ≤ d.length → d.take (strip d m) = dg (val (d.take m)).toNat ∧ (0 < strip d m ↔ val (d.take m) ≠ 0)
  | 0, _ => by simp [strip, val, dg_zero]
  | m + 1, hm => by
    have hm' : m < d.length := by omega
    have ih := strip_take hd m (by omega)
    have hv := val_take_succ hm'
    have hg : d.getD m 0 = d[m] := by simp [List.getD_eq_getElem?_getD, hm']
    unfold strip
    by_cases c : d[m] = 0
    · rw [if_pos (by rw [hg]; exact c), hv, c, Int.mul_zero, Int.add_zero]; exact ih
    · rw [if_neg (by rw [hg]; exact c)]
      have hp : 0 ≤ d[m] ∧ d[m] ≤ 9999 := hd _ (List.getElem_mem hm')
      have hn := val_nn (hd.take m)
      have hP := P_pos m
      have hpos : 0 < P m * d[m] := Int.mul_pos hP (by omega)
      have e2 : dg (val (d.take (m + 1))).toNat = d.take (m + 1) := by
        refine dg_of (hd.take _) (fun h => ?_)
        have e3 : (d.take (m + 1)).length - 1 = m := by rw [List.length_take]; omega
        rw [List.getLast_eq_getElem, List.getElem_take]; simp only [e3]; exact c
      exact ⟨e2.symm, fun _ => by omega, fun _ => by omega⟩
theorem l1Num_l2 {neg : Bool} {d : List Int} {b : Nm} (hl : d.length ≤ 1000) : ∀ m : Nat, m ≤ d.length → Lv (fun k n => spec_l1Num.l2 k n neg d (m : Int) b) ((neg, d, (), (strip d m : Int), ()), (b, ()))
  | 0, _ => by
    refine Lv.step (g := fun k n => spec_l1Num.s2 k (spec_l1Num.l2 k n) neg d ((0 : Nat) : Int) b) ?_ (fun _ _ => rfl)
    refine .now fun k n => ?_
    simp only [spec_l1Num.s2, decide_eq_true_eq]
    rw [if_neg (by omega)]; rfl
  | m + 1, hm => by
    have hm' : m < d.length := by omega
    have w : W (((m + 1 : Nat) : Int) - 1) = (m : Int) := by rw [W_id (by omega) (by omega)]; omega
    refine Lv.step (g := fun k n => spec_l1Num.s2 k (spec_l1Num.l2 k n) neg d ((m + 1 : Nat) : Int) b) ?_ (fun _ _ => rfl)
    have hg : d.getD m 0 = d[m] := by simp [List.getD_eq_getElem?_getD, hm']
    simp only [spec_l1Num.s2, decide_eq_true_eq, w, eq_iff, rd_get hm']
    by_cases c : d[m] = 0
    · rw [show strip d (m + 1) = strip d m from if_pos (by rw [hg]; exact c)]
      refine (l1Num_l2 hl m (by omega)).congr fun k n => ?_
      rw [if_pos (by omega), if_pos (by omega), if_pos (by omega), if_pos c]
    · rw [show strip d (m + 1) = m + 1 from if_neg (by rw [hg]; exact c)]
      refine .now fun k n => ?_
      rw [if_pos (by omega), if_pos (by omega), if_pos (by omega), if_neg c]
theorem l1Num_ev {neg : Bool} {d : List Int} (hd : DG d) (hl : d.length ≤ 1000) : Ev (fun k => spec_l1Num.f k neg d) (numV neg d) := by
  unfold spec_l1Num.f
  refine Ev.bind (l1Num_l2 (neg := neg) (b := ⟨false, []⟩) hl d.length (Nat.le_refl _)).ev (.now fun k => ?_)
  have hs := strip_le d d.length
  obtain ⟨e1, e2⟩ := strip_take hd d.length (Nat.le_refl _)
  rw [List.take_length] at e1 e2
  have hle : (d.take (strip d d.length)).length ≤ 1000 := by rw [List.length_take]; omega
  have hlt : lt47 (([] : List Int).length + (d.take (strip d d.length)).length) = true := lt47_of (by rw [List.length_nil]; omega)
  simp only [Int.toNat_natCast, hlt, if_true, List.nil_append]
  rw [e1]
  have hd1 : decide ((strip d d.length : Int) > 0) = decide (val d ≠ 0) := decide_eq_decide.mpr ⟨fun h => e2.1 (by omega), fun h => by have := e2.2 h; omega⟩
  cases neg
  · rw [if_neg (by simp), if_pos (by omega), if_pos (by omega)]; rfl
  · rw [if_pos rfl, if_pos (by omega), if_pos (by omega), hd1]; rfl
theorem Of_l5 {x : Int} {b : Nm} : ∀ (n : Nat) (acc : List Int), n < 9223372036854775809 → acc.length + (dg n).length ≤ 900 → Lv (fun k m => spec_Of.l5 k m x (n : Int) b acc) ((x, (), (), ()), (b, acc ++ dg n, ())) := by
  intro n
  induction n using Nat.strongRecOn with
  | _ n ih =>
    intro acc hn hl
    refine Lv.step (g := fun k m => spec_Of.s5 k (spec_Of.l5 k m) x (n : Int) b acc) ?_ (fun _ _ => rfl)
    simp only [spec_Of.s5, decide_eq_true_eq]
    by_cases h : n = 0
    · subst h
      refine .now fun k m => ?_
      rw [if_neg (by omega), dg_zero, List.append_nil]
    · have hd := dg_pos (show 0 < n by omega)
      rw [hd] at hl ⊢
      rw [List.length_cons] at hl
      rw [show acc ++ ((n % 10000 : Nat) : Int) :: dg (n / 10000) = (acc ++ [((n % 10000 : Nat) : Int)]) ++ dg (n / 10000) by simp]
      refine (ih (n / 10000) (by omega) (acc ++ [((n % 10000 : Nat) : Int)]) (by omega) (by simp; omega)).congr fun k m => ?_
      rw [if_pos (by omega), if_neg (by omega), if_pos (lt47_of (by rw [List.length_singleton]; omega)), if_neg (by omega), tdiv_e (by omega), tmod_e (by omega), U_id (by omega) (by omega), W_id (by omega) (by omega)]
      rfl
theorem numV_dg (neg : Bool) (n : Nat) : numV neg (dg n) = ⟨neg && decide (n ≠ 0), dg n⟩ := by
  simp only [numV, dg_val, Int.toNat_natCast]
  congr 2
  rw [decide_eq_decide]; omega
/-- a number, as its digits -/
def nm (x : Int) : Nm := ⟨decide (x < 0), dg x.natAbs⟩
theorem Of_ev {x : Int} (h : x.natAbs < 10000000000000000) : Ev (fun k => spec_Of.f k x) (nm x) := by
  have key := Of_l5 (x := x) (b := ⟨false, []⟩) x.natAbs [] (by omega) (by have := dg_len16 h; simp; omega)
  rw [List.nil_append] at key
  have e : Ev (fun k => spec_l1Num.f k (decide (x < 0)) (dg x.natAbs)) (nm x) := by
    have := l1Num_ev (neg := decide (x < 0)) (dg_DG x.natAbs) (by have := dg_len16 h; omega)
    rw [numV_dg, show (decide (x < 0) && decide (x.natAbs ≠ 0)) = decide (x < 0) from by rw [Bool.eq_iff_iff]; simp; omega] at this
    exact this
  unfold spec_Of.f
  simp only [decide_eq_true_eq]
  by_cases c : x < 0
  · have hw : U ((U (W (0 - (W (x + 1))))) + 1) = (x.natAbs : Int) := by
      rw [W_id (x := x + 1) (by omega) (by omega), W_id (by omega) (by omega), U_id (n := 0 - (x + 1)) (by omega) (by omega), U_id (by omega) (by omega)]; omega
    simp only [if_pos c, hw]
    exact Ev.bind key.ev (Ev.bind e (.now fun _ => rfl))
  · have hw : U x = (x.natAbs : Int) := by rw [U_id (by omega) (by omega)]; omega
    simp only [if_neg c, hw]
    exact Ev.bind key.ev (Ev.bind e (.now fun _ => rfl))
theorem NumOk_l3 {len : Int} {a : Nm} (he : len = (a.d.length : Int)) (hd : DG a.d) (hl : a.d.length ≤ 100) : ∀ (q i : Nat), a.d.length - i = q → i ≤ a.d.length → Lv (fun k n => spec_NumOk.l3 k n len (i : Int) a) (.inr (((), len, ()), (a, ()))) := by
  intro q
  induction q with
  | zero =>
    intro i hq hi
    refine Lv.step (g := fun k n => spec_NumOk.s3 k (spec_NumOk.l3 k n) len (i : Int) a) ?_ (fun _ _ => rfl)
    refine .now fun k n => ?_
    simp only [spec_NumOk.s3, decide_eq_true_eq]
    rw [if_neg (by omega)]
  | succ q ih =>
    intro i hq hi
    have hi' : i < a.d.length := by omega
    have hp : 0 ≤ a.d[i] ∧ a.d[i] ≤ 9999 := hd _ (List.getElem_mem hi')
    refine Lv.step (g := fun k n => spec_NumOk.s3 k (spec_NumOk.l3 k n) len (i : Int) a) ?_ (fun _ _ => rfl)
    refine (ih (i + 1) (by omega) (by omega)).congr fun k n => ?_
    simp only [spec_NumOk.s3, decide_eq_true_eq]
    rw [if_pos (by omega), if_pos (by omega), if_pos (by omega), if_pos (by omega), rd_get hi', l1In_f, Option.bind_some, decide_eq_true hp, if_neg (by simp), W_id (by omega) (by omega)]; rfl
theorem NumOk_ev {neg : Bool} {n : Nat} (hn : n < 10000000000000000) (hneg : neg = true → n ≠ 0) : Ev (fun k => spec_NumOk.f k ⟨neg, dg n⟩) true := by
  unfold spec_NumOk.f
  have ln := dg_len16 hn
  refine Ev.bind (Lv.ev (f := fun k m => spec_NumOk.l3 k m ((dg n).length : Int) ((0 : Nat) : Int) ⟨neg, dg n⟩) (NumOk_l3 (a := ⟨neg, dg n⟩) rfl (dg_DG n) (by show (dg n).length ≤ 100; omega) (dg n).length 0 rfl (Nat.zero_le _))) (.now fun k => ?_)
  simp only [decide_eq_true_eq, eq_iff]
  rw [if_pos (by omega)]
  by_cases e0 : n = 0
  · subst e0
    have : neg = false := by
      cases neg
      · rfl
      · exact absurd rfl (hneg rfl)
    subst this
    rw [if_pos (by simp [dg_zero]), if_pos (by decide)]
  · have hne : dg n ≠ [] := fun h => e0 (dg_ne.mp h)
    have hp : 0 < (dg n).length := List.length_pos_iff.mpr hne
    have w : W (((dg n).length : Int) - 1) = (((dg n).length - 1 : Nat) : Int) := by rw [W_id (by omega) (by omega)]; omega
    have hr : rd (dg n) (((dg n).length - 1 : Nat) : Int) ≠ 0 := by
      rw [rd_get (by omega)]
      have := dg_last hne
      rwa [List.getLast_eq_getElem] at this
    rw [if_neg (by omega), if_pos (by omega), w, if_pos (by omega), if_pos (by omega)]
    simp [hr]
theorem mag_dg {neg : Bool} {n : Nat} (hn : n < 10000000000000000) (hneg : neg = true → n ≠ 0) : Ev (fun k => spec_l1Mag.f k ⟨neg, dg n⟩) (dg n) := by
  unfold spec_l1Mag.f
  exact Ev.bind (NumOk_ev hn hneg) (.now fun k => if_neg (by simp))
theorem gcd_le' {x y : Int} {N : Nat} (hx : x.natAbs ≤ N) (hy : y.natAbs ≤ N) : Nat.gcd x.natAbs y.natAbs ≤ N := by
  by_cases z : x.natAbs = 0
  · rw [z, Nat.gcd_zero_left]; exact hy
  · exact Nat.le_trans (Nat.gcd_le_left _ (by omega)) hx
def spk (s : S4) : Bool := decide ((1 ≤ s.d ∧ s.d ≤ 1000000000) ∧ (-1000000000 ≤ s.a ∧ s.a ≤ 1000000000) ∧ (-1000000000 ≤ s.b ∧ s.b ≤ 1000000000) ∧ (-1000000000 ≤ s.c ∧ s.c ≤ 1000000000)) && (((Nat.gcd (Nat.gcd s.a.natAbs s.b.natAbs) (Nat.gcd s.c.natAbs s.d.natAbs) : Nat) : Int) == 1)
theorem spec_SpotOk_ev (s : S4) : Ev (fun k => spec_SpotOk.f k s) (spk s) := by
  simp only [spec_SpotOk.f, l1In_f, Option.bind_some, decide_eq_true_eq, spk]
  by_cases hd : 1 ≤ s.d ∧ s.d ≤ 1000000000
  · by_cases ha : -1000000000 ≤ s.a ∧ s.a ≤ 1000000000
    · by_cases hb : -1000000000 ≤ s.b ∧ s.b ≤ 1000000000
      · by_cases hc : -1000000000 ≤ s.c ∧ s.c ≤ 1000000000
        · simp only [hd, ha, hb, hc, and_self, if_true, decide_true, Bool.true_and]
          have la := gcd_le' (x := s.a) (y := s.b) (N := 1000000000) (by omega) (by omega)
          have lc := gcd_le' (x := s.c) (y := s.d) (N := 1000000000) (by omega) (by omega)
          refine (l3Gcd_ev (by omega) (by omega)).bind ((l3Gcd_ev (by omega) (by omega)).bind ?_)
          have := l3Gcd_ev (a := ((Nat.gcd s.a.natAbs s.b.natAbs : Nat) : Int)) (b := ((Nat.gcd s.c.natAbs s.d.natAbs : Nat) : Int)) (by omega) (by omega)
          simp only [Int.natAbs_natCast] at this
          exact this.one
        · simp only [hd, ha, hb, hc, and_self, if_true, if_false, and_false, decide_false, Bool.false_and]; exact .now fun _ => rfl
      · simp only [hd, ha, hb, and_self, if_true, if_false, and_false, false_and, decide_false, Bool.false_and]; exact .now fun _ => rfl
    · simp only [hd, ha, and_self, if_true, if_false, and_false, false_and, decide_false, Bool.false_and]; exact .now fun _ => rfl
  · simp only [hd, if_false, false_and, decide_false, Bool.false_and]; exact .now fun _ => rfl
theorem spot_step {x : S3} {s : S4} {i : Int} {r : impl_SpotOk.B4} (h0 : 0 ≤ i) (h3 : i < 3) (h : (-1000000000 ≤ sel [x.x, x.y, x.z] i ∧ sel [x.x, x.y, x.z] i ≤ 1000000000) → Lv (fun k n => impl_SpotOk.l4 k n x (W (i + 1)) s) r) (h2 : ¬ (-1000000000 ≤ sel [x.x, x.y, x.z] i ∧ sel [x.x, x.y, x.z] i ≤ 1000000000) → r = .inl ((false, ()), ())) : Lv (fun k n => impl_SpotOk.l4 k n x i s) r := by
  refine Lv.step (g := fun k n => impl_SpotOk.s4 k (impl_SpotOk.l4 k n) x i s) ?_ (fun _ _ => rfl)
  simp only [impl_SpotOk.s4, decide_eq_true_eq, if_pos h3, if_pos h0, inRange_f, Option.bind_some]
  by_cases c : -1000000000 ≤ sel [x.x, x.y, x.z] i ∧ sel [x.x, x.y, x.z] i ≤ 1000000000
  · simp only [c, and_self, decide_true, Bool.not_true, Bool.false_eq_true, if_false]; exact h c
  · rw [h2 c]; simp only [c, decide_false, Bool.not_false, if_true]; exact .now fun _ _ => rfl
theorem impl_SpotOk_ev (s : S4) : Ev (fun k => impl_SpotOk.f k s) (spk s) := by
  simp only [impl_SpotOk.f, inRange_f, Option.bind_some, spk]
  by_cases hd : 1 ≤ s.d ∧ s.d ≤ 1000000000
  · simp only [hd, and_self, decide_true, Bool.not_true, Bool.false_eq_true, if_false, true_and]
    have L : Lv (fun k n => impl_SpotOk.l4 k n ⟨s.a, s.b, s.c⟩ 0 s) (if (-1000000000 ≤ s.a ∧ s.a ≤ 1000000000) ∧ (-1000000000 ≤ s.b ∧ s.b ≤ 1000000000) ∧ (-1000000000 ≤ s.c ∧ s.c ≤ 1000000000) then .inr (((), ()), (s, ())) else .inl ((false, ()), ())) := by
      have q0 : sel [s.a, s.b, s.c] 0 = s.a := rfl
      have q1 : sel [s.a, s.b, s.c] 1 = s.b := rfl
      have q2 : sel [s.a, s.b, s.c] 2 = s.c := rfl
      refine spot_step (by omega) (by omega) (fun ha => ?_) (fun ha => ?_)
      · rw [show W (0 + 1) = 1 from W_1]
        refine spot_step (by omega) (by omega) (fun hb => ?_) (fun hb => ?_)
        · rw [show W (1 + 1) = 2 from W_2]
          refine spot_step (by omega) (by omega) (fun hc => ?_) (fun hc => ?_)
          · rw [show W (2 + 1) = 3 from W_3]
            simp only [q0, q1, q2] at ha hb hc
            rw [if_pos ⟨ha, hb, hc⟩]
            refine Lv.step (g := fun k n => impl_SpotOk.s4 k (impl_SpotOk.l4 k n) ⟨s.a, s.b, s.c⟩ 3 s) ?_ (fun _ _ => rfl)
            exact .now fun k n => by simp [impl_SpotOk.s4]
          · simp only [q2] at hc; rw [if_neg (fun h => hc h.2.2)]
        · simp only [q1] at hb; rw [if_neg (fun h => hb h.2.1)]
      · simp only [q0] at ha; rw [if_neg (fun h => ha h.1)]
    refine L.ev.bind ?_
    by_cases c : (-1000000000 ≤ s.a ∧ s.a ≤ 1000000000) ∧ (-1000000000 ≤ s.b ∧ s.b ≤ 1000000000) ∧ (-1000000000 ≤ s.c ∧ s.c ≤ 1000000000)
    · simp only [if_pos c, c, and_self, decide_true, Bool.true_and]
      exact (divisor4_ev (a := s.a) (b := s.b) (c := s.c) (d := s.d) (by omega) (by omega) (by omega) (by omega)).one
    · simp only [if_neg c, c, decide_false, Bool.false_and]; exact .now fun _ => rfl
  · simp only [hd, decide_false, Bool.not_false, if_true, false_and, Bool.false_and]; exact .now fun _ => rfl
end Go.Proofs.YtalkkenkeilmpaaDoor.Q
