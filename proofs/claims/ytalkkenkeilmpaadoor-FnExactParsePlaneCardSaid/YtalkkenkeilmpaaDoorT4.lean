/- A word read as a number: both programs read the same. -/
import Derived.Test.YtalkkenkeilmpaaDoorT3
namespace Go.Proofs.YtalkkenkeilmpaaDoor.Q
open Go Go.RowKit Go.Proofs Go.Proofs.YtalkkenkeilmpaaDoor.Ev Go.Proofs.YtalkkenkeilmpaaDoor.G
set_option linter.unusedSimpArgs false
set_option linter.unusedVariables false

theorem sgn_at {l : List UInt8} (h : 0 < l.length) : ((bAt (mkS l) ((0 : Int).toNat)) == 45) = sgnB l := by
  cases l with
  | nil => simp at h
  | cons c l =>
    have e : bAt (mkS (c :: l)) ((0 : Int).toNat) = (c.toNat : Int) := by rw [mkS_at]; rfl
    rw [e]
    simp only [sgnB, List.head?_cons]
    rw [Bool.eq_iff_iff, beq_iff_eq, beq_iff_eq, Option.some.injEq]
    constructor
    · intro h
      apply UInt8.toNat_inj.1
      have : (45 : UInt8).toNat = 45 := rfl
      omega
    · rintro rfl; rfl
theorem numV_nm {neg : Bool} {d : List Int} {u : Nat} (hd : val d = (u : Int)) : numV neg d = nm (if neg = true then -(u : Int) else (u : Int)) := by
  unfold numV nm
  rw [hd]
  cases neg with
  | true =>
    simp only [if_true, Bool.true_and, Int.toNat_natCast]
    have h1 : (-(u : Int)).natAbs = u := by omega
    have h2 : decide ((u : Int) ≠ 0) = decide (-(u : Int) < 0) := by
      rw [decide_eq_decide]; omega
    rw [h1, h2]
  | false =>
    simp only [Bool.false_eq_true, if_false, Bool.false_and, Int.toNat_natCast]
    have h1 : (u : Int).natAbs = u := by omega
    have h2 : decide ((u : Int) < 0) = false := decide_eq_false (by omega)
    rw [h1, h2]
/-- what the reference reads. -/
def pnV (l : List UInt8) : Nm × Bool × Unit := if digs l ≠ [] ∧ (digs l).all isDb = true ∧ Lib.itoa (prs l) = l then (nm (prs l), true, ()) else (⟨false, []⟩, false, ())
theorem prs_abs (l : List UInt8) : (prs l).natAbs = hor 0 (digs l) := by unfold prs; split <;> omega
theorem PN_end {l : List UInt8} (hl : l.length ≤ 10) {neg : Bool} (hs : sgnB l = neg) (ha : (digs l).all isDb = true) (hne : digs l ≠ []) :
    Ev (fun k => (spec_l1Num.f k neg (gR (digs l))).bind fun t6 => (spec_NumOk.f k t6).bind fun t7 => if (!t7) = true then (some ((⟨false, ([] : List Int)⟩ : Nm), false, ())) else ((spec_NumText.f k t6).bind fun t8 => if (!(t8.toList == (mkS l).toList)) = true then (some ((⟨false, ([] : List Int)⟩ : Nm), false, ())) else (some (t6, true, ())))) (pnV l) := by
  have hdl : (digs l).length ≤ l.length := by unfold digs; split <;> simp
  obtain ⟨v1, v2, v3⟩ := gR_val (digs l).length (digs l) (Nat.le_refl _) ha
  have hlt := hor_lt ha
  have h10 : 10 ^ (digs l).length ≤ 10 ^ 10 := Nat.pow_le_pow_right (by omega) (by omega)
  have hp := prs_abs l
  have hb : (prs l).natAbs < 10000000000000000 := by omega
  have en : numV neg (gR (digs l)) = nm (prs l) := by
    rw [numV_nm v1, ← hs]; rfl
  have e1 := l1Num_ev (neg := neg) v2 (by omega)
  rw [en] at e1
  have e2 : Ev (fun k => spec_NumOk.f k (nm (prs l))) true := NumOk_ev hb (fun hh => by simp only [decide_eq_true_eq] at hh; omega)
  refine e1.bind (e2.bind ?_)
  simp only [Bool.not_true, Bool.false_eq_true, if_false]
  refine (NumText_ev hb).bind ?_
  simp only [mkS_beq]
  by_cases c : Lib.itoa (prs l) = l
  · have e : pnV l = (nm (prs l), true, ()) := by unfold pnV; rw [if_pos ⟨hne, ha, c⟩]
    rw [e]
    simp only [c, decide_true, Bool.not_true, Bool.false_eq_true, if_false]
    exact .now fun _ => rfl
  · have e : pnV l = (⟨false, []⟩, false, ()) := by unfold pnV; rw [if_neg (fun h => c h.2.2)]
    rw [e]
    simp only [c, decide_false, Bool.not_false, if_true]
    exact .now fun _ => rfl
theorem pn_no {l : List UInt8} (h : ¬ (digs l ≠ [] ∧ (digs l).all isDb = true)) : pnV l = (⟨false, []⟩, false, ()) := by
  unfold pnV; rw [if_neg (fun h2 => h ⟨h2.1, h2.2.1⟩)]
theorem ParseNum_ev {l : List UInt8} (hl : l.length ≤ 10) : Ev (fun k => spec_ParseNum.f k (mkS l)) (pnV l) := by
  unfold spec_ParseNum.f
  simp only [mkS_size, decide_eq_true_eq]
  have w1 : W ((l.length : Int) - 1) = (l.length : Int) - 1 := W_id (by omega) (by omega)
  have w0 : W ((l.length : Int) - 0) = (l.length : Int) := by rw [W_id (by omega) (by omega)]; omega
  by_cases h0 : (l.length : Int) > 0
  · have hl0 : 0 < l.length := by omega
    simp only [if_pos h0, Int.le_refl, if_true, if_pos (show (0 : Int).toNat < l.length by simpa using hl0), sgn_at hl0]
    cases hs : sgnB l with
    | true =>
      have hd : digs l = l.tail := by unfold digs; rw [if_pos hs]
      simp only [if_true, eq_iff]
      by_cases c1 : (l.length : Int) = 1
      · have : digs l = [] := by
          rw [hd]; apply List.eq_nil_of_length_eq_zero; rw [List.length_tail]; omega
        rw [pn_no (fun h => h.1 this)]
        simp only [if_pos c1]
        exact .now fun _ => rfl
      · simp only [if_neg c1, w1, if_neg (show ¬ (l.length : Int) - 1 > 480 by omega)]
        have q := PN_l8 (l := l) (fr := 1) (by omega) (by omega) (b2 := (⟨false, ([] : List Int)⟩ : Nm)) l.length l.length [] (Nat.le_refl _) (by omega) (Nat.le_refl _) (by simp; omega)
        have e1 : (l.take l.length).drop 1 = digs l := by rw [List.take_length, hd, List.drop_one]
        rw [e1, List.nil_append] at q
        have hne : digs l ≠ [] := fun e => by
          rw [hd] at e; have := congrArg List.length e; rw [List.length_tail] at this; simp at this; omega
        refine q.ev.bind ?_
        cases ha : (digs l).all isDb with
        | true =>
          simp only [if_true, show (((1 : Nat) : Int) == 1) = true from rfl]
          exact PN_end hl hs ha hne
        | false =>
          rw [pn_no (fun h => by rw [ha] at h; exact absurd h.2 (by simp))]
          simp only [Bool.false_eq_true, if_false]
          exact .now fun _ => rfl
    | false =>
      have hd : digs l = l := by unfold digs; rw [if_neg (by rw [hs]; simp)]
      have hne : digs l ≠ [] := fun e => by rw [hd] at e; rw [e] at hl0; simp at hl0
      simp only [Bool.false_eq_true, if_false, eq_iff, if_neg (show ¬ (l.length : Int) = 0 by omega), w0, if_neg (show ¬ (l.length : Int) > 480 by omega)]
      have q := PN_l8 (l := l) (fr := 0) (by omega) (by omega) (b2 := (⟨false, ([] : List Int)⟩ : Nm)) l.length l.length [] (Nat.le_refl _) (by omega) (Nat.le_refl _) (by simp; omega)
      have e1 : (l.take l.length).drop 0 = digs l := by rw [List.take_length, hd, List.drop_zero]
      rw [e1, List.nil_append] at q
      refine q.ev.bind ?_
      cases ha : (digs l).all isDb with
      | true =>
        simp only [if_true, show (((0 : Nat) : Int) == 1) = false from rfl]
        exact PN_end hl hs ha hne
      | false =>
        rw [pn_no (fun h => by rw [ha] at h; exact absurd h.2 (by simp))]
        simp only [Bool.false_eq_true, if_false]
        exact .now fun _ => rfl
  · have e : l = [] := List.eq_nil_of_length_eq_zero (by omega)
    subst e
    rw [pn_no (fun h => h.1 rfl)]
    simp only [List.length_nil, if_neg (show ¬ ((0 : Nat) : Int) > 0 by omega), eq_iff, if_pos (show ((0 : Nat) : Int) = 0 from rfl)]
    exact .now fun _ => rfl
theorem val_drop_le {d : List Int} (hd : DG d) (i : Nat) : 0 ≤ val (d.drop i) ∧ val (d.drop i) ≤ val d := by
  have h0 := val_nn (hd.drop i)
  have h1 := val_nn (hd.take i)
  have h2 := val_app (d.take i) (d.drop i)
  rw [List.take_append_drop] at h2
  have h3 := P_one_le (d.take i).length
  have h4 : 1 * val (d.drop i) ≤ P (d.take i).length * val (d.drop i) := Int.mul_le_mul_of_nonneg_right h3 h0
  omega
theorem Small_l6 {d : List Int} {b : Nm} (hd : DG d) (hl : d.length ≤ 5) (hv : val d < 1000000000000) : ∀ m : Nat, m ≤ d.length → Lv (fun k n => spec_Small.l6 k n d (val (d.drop m)) ((m : Int) - 1) b) (.inr (((), val d, ()), (b, ()))) := by
  intro m
  induction m with
  | zero =>
    intro _
    refine Lv.step (g := fun k n => spec_Small.s6 k (spec_Small.l6 k n) d (val (d.drop 0)) (((0 : Nat) : Int) - 1) b) ?_ (fun _ _ => rfl)
    simp only [spec_Small.s6, decide_eq_true_eq, if_neg (show ¬ ((0 : Nat) : Int) - 1 ≥ 0 by omega), List.drop_zero]
    exact .now fun _ _ => rfl
  | succ m ih =>
    intro hm
    have hm' : m < d.length := by omega
    have e1 : ((m + 1 : Nat) : Int) - 1 = (m : Int) := by omega
    have vd := val_drop hm'
    have b1 := val_drop_le hd (m + 1)
    have b0 := val_drop_le hd m
    have hdm := hd d[m] (List.getElem_mem hm')
    have w : W ((m : Int) - 1) = (m : Int) - 1 := W_id (by omega) (by omega)
    have u1 : U (val (d.drop (m + 1)) * 10000) = val (d.drop (m + 1)) * 10000 := U_id (by omega) (by omega)
    have u2 : U d[m] = d[m] := U_id (by omega) (by omega)
    have u3 : U (val (d.drop (m + 1)) * 10000 + d[m]) = val (d.drop m) := by rw [U_id (by omega) (by omega)]; omega
    rw [e1]
    refine Lv.step (g := fun k n => spec_Small.s6 k (spec_Small.l6 k n) d (val (d.drop (m + 1))) (m : Int) b) ?_ (fun _ _ => rfl)
    simp only [spec_Small.s6, decide_eq_true_eq, if_pos (show (m : Int) ≥ 0 by omega), if_neg (show ¬ val (d.drop (m + 1)) > 922337203685477 by omega), if_pos (show (m : Int) < (d.length : Int) by omega), rd_get hm', u1, u2, u3, w]
    exact ih (by omega)
theorem sign_dg {neg : Bool} {n : Nat} (hn : n < 10000000000000000) (hneg : neg = true → n ≠ 0) : Ev (fun k => spec_l1Sign.f k ⟨neg, dg n⟩) neg := by
  unfold spec_l1Sign.f
  exact Ev.bind (NumOk_ev hn hneg) (.now fun k => if_pos rfl)
theorem Small_ev {x : Int} (h : x.natAbs < 1000000000000) : Ev (fun k => spec_Small.f k (nm x)) (x, true, ()) := by
  unfold spec_Small.f
  have hneg : decide (x < 0) = true → x.natAbs ≠ 0 := fun hh => by simp only [decide_eq_true_eq] at hh; omega
  refine (mag_dg (neg := decide (x < 0)) (by omega) hneg).bind ?_
  have hlen := dg_len12 h
  have hv : val (dg x.natAbs) = (x.natAbs : Int) := dg_val _
  have w : W (((dg x.natAbs).length : Int) - 1) = ((dg x.natAbs).length : Int) - 1 := W_id (by omega) (by omega)
  have l6 := Small_l6 (d := dg x.natAbs) (b := nm x) (dg_DG _) (by omega) (by omega) (dg x.natAbs).length (Nat.le_refl _)
  rw [List.drop_length] at l6
  have v0 : val [] = 0 := rfl
  rw [v0, hv] at l6
  simp only [decide_eq_true_eq, if_neg (show ¬ ((dg x.natAbs).length : Int) > 5 by omega), w]
  refine l6.ev.bind ?_
  refine (sign_dg (neg := decide (x < 0)) (by omega) hneg).bind ?_
  by_cases hn : x < 0
  · have e1 : W (0 - W (U ((x.natAbs : Int) - 1))) = 1 - (x.natAbs : Int) := by
      rw [U_id (by omega) (by omega), W_id (x := (x.natAbs : Int) - 1) (by omega) (by omega), W_id (by omega) (by omega)]; omega
    have e2 : W (1 - (x.natAbs : Int) - 1) = x := by rw [W_id (by omega) (by omega)]; omega
    simp only [hn, decide_true, if_true, if_neg (show ¬ (x.natAbs : Int) > 9223372036854775808 by omega), e1, e2]
    exact .now fun _ => rfl
  · have e2 : W (x.natAbs : Int) = x := by rw [W_id (by omega) (by omega)]; omega
    simp only [hn, decide_false, Bool.false_eq_true, if_false, if_neg (show ¬ (x.natAbs : Int) ≥ 9223372036854775808 by omega), e2]
    exact .now fun _ => rfl
theorem itoa_len10 {n : Int} (h : n.natAbs ≤ 999999999) : (Lib.itoa n).length ≤ 10 := by
  have := dec_len9.2 h
  by_cases hn : n < 0
  · rw [itoa_neg' hn, List.length_cons]; omega
  · rw [itoa_pos hn]; omega
theorem Small_no (k : Nat) : ∃ r, Ev (fun k => spec_Small.f k (⟨false, []⟩ : Nm)) r := ⟨(0, true, ()), by
  have := Small_ev (x := 0) (by decide)
  have e : nm 0 = (⟨false, []⟩ : Nm) := by unfold nm; rw [show (0 : Int).natAbs = 0 from rfl, dg_zero]; rfl
  rw [e] at this; exact this⟩
/-- the reference's number of a word. -/
theorem l3Int_ev (l : List UInt8) : ∃ r : Int × Bool × Unit, Ev (fun k => spec_l3Int.f k (mkS l)) r ∧ r.2.1 = (numW l).isSome ∧ ∀ n, numW l = some n → r.1 = n := by
  unfold spec_l3Int.f
  simp only [mkS_size, decide_eq_true_eq]
  by_cases h10 : (l.length : Int) > 10
  · refine ⟨(0, false, ()), ?_, ?_⟩
    · simp only [if_pos h10]; exact .now fun _ => rfl
    · have : numW l = none := by
        unfold numW
        rw [if_neg]
        rintro ⟨h1, h2⟩
        have := itoa_len10 h1
        rw [h2] at this; omega
      rw [this]; exact ⟨rfl, fun n h => by cases h⟩
  · simp only [if_neg h10]
    have hp := ParseNum_ev (l := l) (by omega)
    by_cases c : digs l ≠ [] ∧ (digs l).all isDb = true ∧ Lib.itoa (prs l) = l
    · have e : pnV l = (nm (prs l), true, ()) := by unfold pnV; rw [if_pos c]
      rw [e] at hp
      have hlt := hor_lt c.2.1
      have hdl : (digs l).length ≤ l.length := by unfold digs; split <;> simp
      have h10' : 10 ^ (digs l).length ≤ 10 ^ 10 := Nat.pow_le_pow_right (by omega) (by omega)
      have hpa := prs_abs l
      refine ⟨(prs l, decide (-999999999 ≤ prs l ∧ prs l ≤ 999999999), ()), hp.bind ((Small_ev (x := prs l) (by omega)).bind ?_), ?_⟩
      · simp only [if_true, l1In_f, Option.bind_some]
        exact .now fun _ => rfl
      · unfold numW
        by_cases h9 : (prs l).natAbs ≤ 999999999
        · rw [if_pos ⟨h9, c.2.2⟩]
          refine ⟨?_, fun n h => by cases h; rfl⟩
          simp only [Option.isSome_some, decide_eq_true_eq]; omega
        · rw [if_neg (fun h => h9 h.1)]
          refine ⟨?_, fun n h => by cases h⟩
          simp only [Option.isSome_none, decide_eq_false_iff_not]; omega
    · have e : pnV l = (⟨false, []⟩, false, ()) := by unfold pnV; rw [if_neg c]
      rw [e] at hp
      obtain ⟨r, hr⟩ := Small_no 0
      refine ⟨(r.1, false, ()), hp.bind (hr.bind ?_), ?_⟩
      · simp only [Bool.false_eq_true, if_false]; exact .now fun _ => rfl
      · have : numW l = none := by
          unfold numW
          rw [if_neg]
          rintro ⟨h1, h2⟩
          refine c ⟨?_, ?_, h2⟩
          · have := digs_itoa (prs l); rw [h2] at this; rw [this]; exact dec_ne _
          · have := digs_itoa (prs l); rw [h2] at this; rw [this]; exact dec_all _
        rw [this]; exact ⟨rfl, fun n h => by cases h⟩

/-! ### the program's own -/
theorem parse_dec : ∀ (l : List UInt8) (acc : Nat), l.all isDb = true → hor acc l < 9223372036854775808 → Lib.parseUint10 acc l = .ok (hor acc l)
  | [], acc, _, _ => rfl
  | c :: l, acc, h, hb => by
    simp only [List.all_cons, Bool.and_eq_true, isDb, decide_eq_true_eq] at h
    rw [hor_cons] at hb ⊢
    have h1 : 10 * acc + (c.toNat - 48) ≤ hor (10 * acc + (c.toNat - 48)) l := by
      rw [hor_eq]
      have : 0 < 10 ^ l.length := Nat.pow_pos (by omega)
      have := Nat.le_mul_of_pos_right (10 * acc + (c.toNat - 48)) this
      omega
    have ih := parse_dec l (10 * acc + (c.toNat - 48)) h.2 hb
    unfold Lib.parseUint10
    rw [if_pos h.1, if_neg (by omega), if_neg (by omega), show acc * 10 + (c.toNat - 48) = 10 * acc + (c.toNat - 48) by omega]
    exact ih
theorem mag_dec {u : Nat} (h : u < 9223372036854775808) : Lib.parseMag (Lib.decDigits u) = .ok u := by
  unfold Lib.parseMag
  rw [if_neg (dec_ne u), parse_dec _ 0 (dec_all u) (by rw [hor_dec]; exact h), hor_dec]
theorem atoi_itoa {n : Int} (h : n.natAbs ≤ 999999999) : Lib.atoiAll (Lib.itoa n) = .ok n := by
  by_cases hn : n < 0
  · rw [itoa_neg' hn]
    unfold Lib.atoiAll
    have e45 : (45 : UInt8).toNat = 45 := rfl
    simp only [e45, or_true, if_true, mag_dec (show n.natAbs < 9223372036854775808 by omega), not_true_eq_false, false_and, if_false, true_and, if_neg (show ¬ 9223372036854775808 < n.natAbs by omega)]
    congr 1; omega
  · rw [itoa_pos hn]
    have h1 := dec_all n.natAbs
    have h2 := dec_ne n.natAbs
    have h3 := mag_dec (show n.natAbs < 9223372036854775808 by omega)
    cases hq : Lib.decDigits n.natAbs with
    | nil => exact absurd hq h2
    | cons c l =>
      rw [hq] at h1 h3
      simp only [List.all_cons, Bool.and_eq_true, isDb, decide_eq_true_eq] at h1
      unfold Lib.atoiAll
      have c43 : ¬ c.toNat = 43 := by omega
      have c45 : ¬ c.toNat = 45 := by omega
      simp only [c43, c45, or_self, if_false, h3, not_false_eq_true, true_and, if_neg (show ¬ 9223372036854775808 ≤ n.natAbs by omega), false_and]
      congr 1; omega
theorem trim_itoa (n : Int) : Lib.trimPrefix (Lib.itoa n) [45] = Lib.decDigits n.natAbs := by
  unfold Lib.trimPrefix Lib.hasPrefix
  by_cases hn : n < 0
  · rw [itoa_neg' hn, if_pos (by simp [List.isPrefixOf])]; rfl
  · rw [itoa_pos hn, if_neg]
    have := dec_head n.natAbs
    cases hq : Lib.decDigits n.natAbs with
    | nil => simp [List.isPrefixOf]
    | cons c l =>
      rw [hq] at this
      simp only [sgnB, List.head?_cons, beq_eq_false_iff_ne, ne_eq, Option.some.injEq] at this
      simp only [List.isPrefixOf, Bool.and_true, beq_iff_eq]
      exact fun e => this e.symm
theorem m45 : (⟨#[45]⟩ : ByteArray) = mkS [45] := rfl
theorem mkS_data (l : List UInt8) : (mkS l).data.toList = l := by simp [mkS]
theorem numberOf_ev {l : List UInt8} (hl : l.length ≤ 1048576) : Ev (fun k => impl_numberOf.f k (mkS l)) (match numW l with | some n => (n, true, ()) | none => (0, false, ())) := by
  unfold impl_numberOf.f
  have ha : ∀ k, strconv_Atoi.f k (mkS l) = some (match Lib.atoiAll l with | .ok v => (v, false, ()) | .range => (Lib.atoiSat l, true, ()) | _ => (0, true, ())) := fun k => by
    unfold strconv_Atoi.f
    rw [if_pos (by rw [mkS_size]; omega), mkS_data]
    rfl
  have ht : ∀ k, strings_TrimPrefix.f k (mkS l) (⟨#[45]⟩ : ByteArray) = some (mkS (Lib.trimPrefix l [45])) := fun k => by
    unfold strings_TrimPrefix.f; rw [mkS_data]; rfl
  simp only [ha, Option.bind_some]
  cases hq : Lib.atoiAll l
  case ok v =>
    obtain ⟨vb0, vb1⟩ := Lib.atoiAll_bounds hq
    have hi : ∀ k, strconv_Itoa.f k v = some (mkS (Lib.itoa v)) := fun k => by
      unfold strconv_Itoa.f; rw [if_pos ⟨by omega, by omega⟩]; rfl
    simp only [Bool.false_eq_true, if_false, ht, Option.bind_some, mkS_size, decide_eq_true_eq]
    cases hw : numW l with
    | some n =>
      unfold numW at hw
      split at hw
      · rename_i h
        cases hw
        have hv : v = prs l := by
          have := atoi_itoa h.1
          rw [h.2, hq] at this
          cases this; rfl
        subst hv
        have htl : (Lib.trimPrefix l [45]).length ≤ 9 := by
          have := trim_itoa (prs l)
          rw [h.2] at this
          rw [this]; exact dec_len9.2 h.1
        simp only [if_neg (show ¬ ((Lib.trimPrefix l [45]).length : Int) > 9 by omega), hi, Option.bind_some, h.2, beq_self_eq_true, Bool.not_true, Bool.false_eq_true, if_false]
        exact .now fun _ => rfl
      · cases hw
    | none =>
      by_cases c9 : ((Lib.trimPrefix l [45]).length : Int) > 9
      · simp only [if_pos c9]; exact .now fun _ => rfl
      · simp only [if_neg c9, hi, Option.bind_some, mkS_beq]
        by_cases ce : Lib.itoa v = l
        · exfalso
          have h1 : v.natAbs ≤ 999999999 := by
            have := trim_itoa v
            rw [ce] at this
            rw [this] at c9
            exact dec_len9.1 (by omega)
          have := numW_itoa h1
          rw [ce, hw] at this; cases this
        · simp only [ce, decide_false, Bool.not_false, if_true]
          exact .now fun _ => rfl
  case range =>
    have : numW l = none := by
      cases hw : numW l with
      | none => rfl
      | some n =>
        unfold numW at hw
        split at hw
        · rename_i h; rw [← h.2, atoi_itoa h.1] at hq; cases hq
        · cases hw
    rw [this]
    simp only [if_true]
    exact .now fun _ => rfl
  · skip
    have : numW l = none := by
      cases hw : numW l with
      | none => rfl
      | some n =>
        unfold numW at hw
        split at hw
        · rename_i h; rw [← h.2, atoi_itoa h.1] at hq; cases hq
        · cases hw
    rw [this]
    simp only [if_true]
    exact .now fun _ => rfl
end Go.Proofs.YtalkkenkeilmpaaDoor.Q
