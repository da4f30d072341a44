/- A text read as a number, by the reference. -/
import Derived.Test.YtalkkenkeilmpaaDoorT2
import Derived.Lib.Split
namespace Go.Proofs.YtalkkenkeilmpaaDoor.Q
open Go Go.RowKit Go.Proofs Go.Proofs.YtalkkenkeilmpaaDoor.Ev Go.Proofs.YtalkkenkeilmpaaDoor.G
set_option linter.unusedSimpArgs false
set_option linter.unusedVariables false

theorem mkS_sub (l : List UInt8) (i j : Nat) : (mkS l).extract i j = mkS ((l.take j).drop i) := by
  apply ByteArray.ext
  simp only [ByteArray.data_extract]
  apply Array.ext'
  simp only [mkS, Array.toList_extract, List.extract_eq_take_drop, List.drop_take]
theorem mkS_beq (a b : List UInt8) : ((mkS a).toList == (mkS b).toList) = decide (a = b) := by
  rw [ByteArray.toList_eq, ByteArray.toList_eq]
  simp only [mkS]
  rw [Bool.eq_iff_iff, beq_iff_eq, decide_eq_true_eq]
theorem mkS_self (s : ByteArray) : s = mkS s.data.toList := by
  apply ByteArray.ext
  simp [mkS]

/-! ### figures -/
def isDb (c : UInt8) : Bool := decide (48 ≤ c.toNat ∧ c.toNat ≤ 57)
def hor (x : Nat) (l : List UInt8) : Nat := l.foldl (fun x c => 10 * x + (c.toNat - 48)) x
theorem hor_app (x : Nat) (a b : List UInt8) : hor x (a ++ b) = hor (hor x a) b := by simp [hor, List.foldl_append]
theorem hor_nil (x : Nat) : hor x [] = x := rfl
theorem hor_cons (x : Nat) (c : UInt8) (l : List UInt8) : hor x (c :: l) = hor (10 * x + (c.toNat - 48)) l := by unfold hor; exact List.foldl_cons ..
theorem hor_eq : ∀ (l : List UInt8) (x : Nat), hor x l = x * 10 ^ l.length + hor 0 l
  | [], x => by simp [hor]
  | c :: l, x => by
    have h1 := hor_eq l (10 * x + (c.toNat - 48))
    have h2 := hor_eq l (10 * 0 + (c.toNat - 48))
    rw [hor_cons, hor_cons, h1, h2, List.length_cons, Nat.pow_succ]
    generalize 10 ^ l.length = p
    generalize c.toNat - 48 = q
    generalize hor 0 l = r
    rw [Nat.add_mul, Nat.mul_zero, Nat.zero_add, Nat.add_assoc, Nat.mul_comm 10 x, Nat.mul_assoc, Nat.mul_comm 10 p]
theorem hor_lt : ∀ {l : List UInt8}, l.all isDb = true → hor 0 l < 10 ^ l.length
  | [], _ => by simp [hor]
  | c :: l, h => by
    simp only [List.all_cons, Bool.and_eq_true, isDb, decide_eq_true_eq] at h
    have := hor_lt (l := l) h.2
    rw [hor_cons, hor_eq l, Nat.mul_zero, Nat.zero_add, List.length_cons, Nat.pow_succ]
    have h9 : c.toNat - 48 ≤ 9 := by omega
    have := Nat.mul_le_mul_right (10 ^ l.length) h9
    omega
theorem dB_toNat {n : Nat} (h : n < 10) : (dB n).toNat = 48 + n := by unfold dB; rw [UInt8.toNat_ofNat']; omega
theorem dec_all : ∀ u : Nat, (Lib.decDigits u).all isDb = true := by
  intro u
  induction u using Nat.strongRecOn with
  | ind u ih =>
    have d1 : ∀ q, q < 10 → isDb (dB q) = true := fun q hq => by simp only [isDb, decide_eq_true_eq, dB_toNat hq]; omega
    by_cases h : u < 10
    · rw [dec_lt h]; simp [d1 u h]
    · rw [dec_ge (by omega), List.all_append, ih (u / 10) (by omega)]; simp [d1 _ (Nat.mod_lt u (by omega))]
theorem hor_dec : ∀ u : Nat, hor 0 (Lib.decDigits u) = u := by
  intro u
  induction u using Nat.strongRecOn with
  | ind u ih =>
    by_cases h : u < 10
    · rw [dec_lt h, hor_cons, hor_nil, dB_toNat h]; omega
    · rw [dec_ge (by omega), hor_app, ih (u / 10) (by omega), hor_cons, hor_nil, dB_toNat (Nat.mod_lt u (by omega))]; omega
theorem dec_len : ∀ (k u : Nat), u < 10 ^ (k + 1) → (Lib.decDigits u).length ≤ k + 1
  | 0, u, h => by rw [dec_lt (by omega)]; simp
  | k + 1, u, h => by
    by_cases c : u < 10
    · rw [dec_lt c]; simp
    · rw [dec_ge (by omega), List.length_append, List.length_singleton]
      have := dec_len k (u / 10) (by rw [Nat.pow_succ] at h; omega)
      omega
theorem dec_len9 {u : Nat} : (Lib.decDigits u).length ≤ 9 ↔ u ≤ 999999999 := by
  constructor
  · intro h
    have h1 := hor_lt (dec_all u)
    rw [hor_dec] at h1
    have : 10 ^ (Lib.decDigits u).length ≤ 10 ^ 9 := Nat.pow_le_pow_right (by omega) h
    omega
  · intro h; exact dec_len 8 u (by omega)
/-! ### the number of a text -/
def sgnB (l : List UInt8) : Bool := l.head? == some 45
def digs (l : List UInt8) : List UInt8 := if sgnB l = true then l.tail else l
def prs (l : List UInt8) : Int := if sgnB l = true then -(hor 0 (digs l) : Int) else (hor 0 (digs l) : Int)
theorem dec_head (u : Nat) : sgnB (Lib.decDigits u) = false := by
  have h1 := dec_all u
  have h2 := dec_ne u
  cases hq : Lib.decDigits u with
  | nil => exact absurd hq h2
  | cons c l =>
    rw [hq] at h1
    simp only [List.all_cons, Bool.and_eq_true, isDb, decide_eq_true_eq] at h1
    simp only [sgnB, List.head?_cons, beq_eq_false_iff_ne, ne_eq, Option.some.injEq]
    intro e
    subst e
    have : (45 : UInt8).toNat = 45 := rfl
    omega
theorem itoa_pos {n : Int} (h : ¬ n < 0) : Lib.itoa n = Lib.decDigits n.natAbs := by unfold Lib.itoa; rw [if_neg h, show n.toNat = n.natAbs by omega]
theorem itoa_neg' {n : Int} (h : n < 0) : Lib.itoa n = 45 :: Lib.decDigits n.natAbs := by unfold Lib.itoa; rw [if_pos h]
theorem sgn_itoa (n : Int) : sgnB (Lib.itoa n) = decide (n < 0) := by
  by_cases h : n < 0
  · rw [itoa_neg' h]; simp [sgnB, h]
  · rw [itoa_pos h, dec_head]; simp [h]
theorem digs_itoa (n : Int) : digs (Lib.itoa n) = Lib.decDigits n.natAbs := by
  unfold digs
  rw [sgn_itoa]
  by_cases h : n < 0
  · rw [if_pos (by simp [h]), itoa_neg' h]; rfl
  · rw [if_neg (by simp [h]), itoa_pos h]
theorem prs_itoa (n : Int) : prs (Lib.itoa n) = n := by
  unfold prs
  rw [digs_itoa, hor_dec, sgn_itoa]
  by_cases h : n < 0
  · rw [if_pos (by simp [h])]; omega
  · rw [if_neg (by simp [h])]; omega
def numW (w : List UInt8) : Option Int := if (prs w).natAbs ≤ 999999999 ∧ Lib.itoa (prs w) = w then some (prs w) else none
theorem numW_itoa {n : Int} (h : n.natAbs ≤ 999999999) : numW (Lib.itoa n) = some n := by
  unfold numW; rw [prs_itoa, if_pos ⟨h, rfl⟩]

/-! ### groups of four figures -/
theorem PN_l12 {l : List UInt8} {fr e : Nat} (he : e ≤ l.length) (hl : l.length ≤ 1000) (hfr : fr ≤ 1) {b2 : Nm} {acc : List Int} : ∀ (d x : Nat), (x + 1) * 10 ^ d ≤ 1000000 →
    Lv (fun k n => spec_ParseNum.l12 k n (mkS l) (fr : Int) (e : Int) (x : Int) ((e : Int) - (d : Int)) b2 acc) (if ((l.take e).drop (max ((e : Int) - (d : Int)) (fr : Int)).toNat).all isDb = true then .inr ((mkS l, (), (fr : Int), (), (e : Int), (hor x ((l.take e).drop (max ((e : Int) - (d : Int)) (fr : Int)).toNat) : Int), ()), (b2, acc, ())) else .inl (((), false, ()), ((⟨false, []⟩ : Nm), ()))) := by
  intro d
  induction d with
  | zero =>
    intro x hx
    refine Lv.step (g := fun k n => spec_ParseNum.s12 k (spec_ParseNum.l12 k n) (mkS l) (fr : Int) (e : Int) (x : Int) ((e : Int) - ((0 : Nat) : Int)) b2 acc) ?_ (fun _ _ => rfl)
    have e0 : (l.take e).drop (max ((e : Int) - ((0 : Nat) : Int)) (fr : Int)).toNat = [] := List.drop_eq_nil_of_le (by rw [List.length_take]; omega)
    rw [e0]
    simp only [spec_ParseNum.s12, decide_eq_true_eq, if_neg (show ¬ (e : Int) - ((0 : Nat) : Int) < (e : Int) by omega), List.all_nil, if_true, hor_nil]
    exact .now fun _ _ => rfl
  | succ d ih =>
    intro x hx
    have hp : 0 < 10 ^ d := Nat.pow_pos (by omega)
    have hx' : (x + 1) * (10 * 10 ^ d) ≤ 1000000 := by rw [Nat.pow_succ, Nat.mul_comm (10 ^ d)] at hx; exact hx
    have hx1 : x + 1 ≤ 1000000 := Nat.le_trans (Nat.le_mul_of_pos_right _ (by omega)) hx'
    refine Lv.step (g := fun k n => spec_ParseNum.s12 k (spec_ParseNum.l12 k n) (mkS l) (fr : Int) (e : Int) (x : Int) ((e : Int) - ((d + 1 : Nat) : Int)) b2 acc) ?_ (fun _ _ => rfl)
    have hd9 : d ≤ 1000000 := by
      have h1 : d < 10 ^ d := Nat.lt_pow_self (by omega)
      have h2 : 10 ^ d ≤ (x + 1) * (10 * 10 ^ d) := by
        rw [← Nat.mul_assoc]; exact Nat.le_mul_of_pos_left _ (by omega)
      omega
    have w1 : W ((e : Int) - ((d + 1 : Nat) : Int) + 1) = (e : Int) - (d : Int) := by rw [W_id (by omega) (by omega)]; omega
    by_cases c : (e : Int) - ((d + 1 : Nat) : Int) < (fr : Int)
    · have em : max ((e : Int) - ((d + 1 : Nat) : Int)) (fr : Int) = max ((e : Int) - (d : Int)) (fr : Int) := by omega
      rw [em]
      simp only [spec_ParseNum.s12, decide_eq_true_eq, if_pos (show (e : Int) - ((d + 1 : Nat) : Int) < (e : Int) by omega), if_pos c, w1]
      exact ih x (Nat.le_trans (Nat.mul_le_mul_left _ (by omega)) hx')
    · obtain ⟨m, hm⟩ : ∃ m : Nat, (e : Int) - ((d + 1 : Nat) : Int) = (m : Int) := ⟨((e : Int) - ((d + 1 : Nat) : Int)).toNat, by omega⟩
      have hme : m < e := by omega
      have hml : m < l.length := by omega
      have em : (max ((e : Int) - ((d + 1 : Nat) : Int)) (fr : Int)).toNat = m := by omega
      have em2 : (max ((e : Int) - (d : Int)) (fr : Int)).toNat = m + 1 := by omega
      have hS : (l.take e).drop m = l[m] :: (l.take e).drop (m + 1) := by
        rw [List.drop_eq_getElem_cons (by rw [List.length_take]; omega)]; simp
      have gd : l.getD m 0 = l[m] := by simp [List.getD_eq_getElem?_getD, hml]
      have hlt := l[m].toNat_lt
      have wb : W ((l[m].toNat : Nat) : Int) = ((l[m].toNat : Nat) : Int) := W_id (by omega) (by omega)
      rw [em, hS]
      rw [hm] at w1 ⊢
      simp only [spec_ParseNum.s12, decide_eq_true_eq, if_pos (show (m : Int) < (e : Int) by omega), if_neg (show ¬ (m : Int) < (fr : Int) by omega), if_pos (Int.natCast_nonneg m), Int.toNat_natCast, mkS_size, if_pos hml, mkS_at, gd, wb, l1In_f, Option.bind_some, w1]
      by_cases hd : 48 ≤ l[m].toNat ∧ l[m].toNat ≤ 57
      · have hdI : (48 : Int) ≤ ((l[m].toNat : Nat) : Int) ∧ ((l[m].toNat : Nat) : Int) ≤ 57 := by omega
        have hb : isDb l[m] = true := by simp only [isDb, decide_eq_true_eq]; exact hd
        have wv : W (W ((x : Int) * 10) + W (IntKind.wrap .u8 (((l[m].toNat : Nat) : Int) - 48))) = ((10 * x + (l[m].toNat - 48) : Nat) : Int) := by
          rw [wrap_u8 (by omega) (by omega), W_id (x := (x : Int) * 10) (by omega) (by omega), W_id (x := ((l[m].toNat : Nat) : Int) - 48) (by omega) (by omega), W_id (by omega) (by omega)]; omega
        simp only [hdI, and_self, decide_true, Bool.not_true, Bool.false_eq_true, if_false, wv, List.all_cons, hb, Bool.true_and, hor_cons]
        have := ih (10 * x + (l[m].toNat - 48)) (by
          refine Nat.le_trans (Nat.mul_le_mul_right _ (show 10 * x + (l[m].toNat - 48) + 1 ≤ (x + 1) * 10 by omega)) ?_
          rw [Nat.mul_assoc]; exact hx')
        rw [em2] at this
        exact this
      · have hdI : ¬ ((48 : Int) ≤ ((l[m].toNat : Nat) : Int) ∧ ((l[m].toNat : Nat) : Int) ≤ 57) := by omega
        have hb : isDb l[m] = false := by simp only [isDb, decide_eq_false_iff_not]; exact hd
        simp only [hdI, decide_false, Bool.not_false, if_true, List.all_cons, hb, Bool.false_and, Bool.false_eq_true, if_false]
        exact .now fun _ _ => rfl
def gR (l : List UInt8) : List Int := if h : l = [] then [] else (hor 0 (l.drop (l.length - 4)) : Int) :: gR (l.take (l.length - 4))
termination_by l.length
decreasing_by
  have : 0 < l.length := List.length_pos_iff.2 h
  rw [List.length_take]; omega
theorem gR_nil : gR [] = [] := by unfold gR; simp
theorem gR_ne {l : List UInt8} (h : l ≠ []) : gR l = (hor 0 (l.drop (l.length - 4)) : Int) :: gR (l.take (l.length - 4)) := by rw [gR, dif_neg h]
theorem gR_val : ∀ (n : Nat) (l : List UInt8), l.length ≤ n → l.all isDb = true → val (gR l) = (hor 0 l : Int) ∧ DG (gR l) ∧ (gR l).length ≤ l.length
  | 0, l, hn, _ => by
    have : l = [] := List.eq_nil_of_length_eq_zero (by omega)
    subst this
    rw [gR_nil]; exact ⟨rfl, DG.nil, by simp⟩
  | n + 1, l, hn, h => by
    by_cases h0 : l = []
    · subst h0; rw [gR_nil]; exact ⟨rfl, DG.nil, by simp⟩
    · have hl : 0 < l.length := List.length_pos_iff.2 h0
      have hsp : l.take (l.length - 4) ++ l.drop (l.length - 4) = l := List.take_append_drop _ _
      have h1 : (l.take (l.length - 4)).all isDb = true ∧ (l.drop (l.length - 4)).all isDb = true := by
        rw [← hsp, List.all_append, Bool.and_eq_true] at h; exact h
      obtain ⟨v1, v2, v3⟩ := gR_val n (l.take (l.length - 4)) (by rw [List.length_take]; omega) h1.1
      have b4 := hor_lt h1.2
      have l4 : (l.drop (l.length - 4)).length ≤ 4 := by rw [List.length_drop]; omega
      have b5 : hor 0 (l.drop (l.length - 4)) < 10000 := by
        have : 10 ^ (l.drop (l.length - 4)).length ≤ 10 ^ 4 := Nat.pow_le_pow_right (by omega) l4
        omega
      rw [gR_ne h0]
      refine ⟨?_, DG.cons ⟨by omega, by omega⟩ v2, by simp only [List.length_cons]; rw [List.length_take] at v3; omega⟩
      simp only [val, v1]
      have hh : hor 0 l = hor 0 (l.take (l.length - 4)) * 10 ^ (l.drop (l.length - 4)).length + hor 0 (l.drop (l.length - 4)) := by
        conv => lhs; rw [← hsp]
        rw [hor_app, hor_eq]
      by_cases c : 4 ≤ l.length
      · have e4 : (l.drop (l.length - 4)).length = 4 := by rw [List.length_drop]; omega
        rw [e4] at hh
        omega
      · have : l.take (l.length - 4) = [] := by rw [show l.length - 4 = 0 by omega]; rfl
        rw [this] at hh ⊢
        simp only [hor_nil, Nat.zero_mul, Nat.zero_add] at hh ⊢
        omega
theorem PN_l8 {l : List UInt8} {fr : Nat} (hl : l.length ≤ 1000) (hfr : fr ≤ 1) {b2 : Nm} : ∀ (N e : Nat) (acc : List Int), e ≤ N → fr ≤ e → e ≤ l.length → acc.length + e ≤ 2000 →
    Lv (fun k n => spec_ParseNum.l8 k n (mkS l) (fr : Int) (e : Int) b2 acc) (if ((l.take e).drop fr).all isDb = true then .inr ((mkS l, (), (fr : Int), (), ()), (b2, acc ++ gR ((l.take e).drop fr), ())) else .inl (((), false, ()), ((⟨false, []⟩ : Nm), ()))) := by
  intro N
  induction N with
  | zero =>
    intro e acc hN hfe he ha
    have e0 : e = 0 := by omega
    have f0 : fr = 0 := by omega
    subst e0 f0
    refine Lv.step (g := fun k n => spec_ParseNum.s8 k (spec_ParseNum.l8 k n) (mkS l) ((0 : Nat) : Int) ((0 : Nat) : Int) b2 acc) ?_ (fun _ _ => rfl)
    simp only [spec_ParseNum.s8, decide_eq_true_eq, if_neg (show ¬ ((0 : Nat) : Int) > ((0 : Nat) : Int) by omega), List.take_zero, List.drop_nil, List.all_nil, if_true, gR_nil, List.append_nil]
    exact .now fun _ _ => rfl
  | succ N ih =>
    intro e acc hN hfe he ha
    refine Lv.step (g := fun k n => spec_ParseNum.s8 k (spec_ParseNum.l8 k n) (mkS l) (fr : Int) (e : Int) b2 acc) ?_ (fun _ _ => rfl)
    by_cases c : (e : Int) > (fr : Int)
    · have w4 : W ((e : Int) - 4) = (e : Int) - ((4 : Nat) : Int) := by rw [W_id (by omega) (by omega)]; omega
      have hseg : ((l.take e).drop fr).length = e - fr := by rw [List.length_drop, List.length_take]; omega
      have hne : (l.take e).drop fr ≠ [] := fun h => by rw [h] at hseg; simp at hseg; omega
      have hS : (l.take e).drop (max ((e : Int) - ((4 : Nat) : Int)) (fr : Int)).toNat = ((l.take e).drop fr).drop (((l.take e).drop fr).length - 4) := by
        rw [List.drop_drop, hseg]; congr 1; omega
      have in12 := PN_l12 (l := l) (fr := fr) (e := e) he hl hfr (b2 := b2) (acc := acc) 4 0 (by omega)
      rw [hS] at in12
      simp only [spec_ParseNum.s8, decide_eq_true_eq, if_pos c, w4]
      have hsp : (l.take e).drop fr = ((l.take e).drop fr).take (((l.take e).drop fr).length - 4) ++ ((l.take e).drop fr).drop (((l.take e).drop fr).length - 4) := (List.take_append_drop _ _).symm
      have hall : ((l.take e).drop fr).all isDb = ((((l.take e).drop fr).take (((l.take e).drop fr).length - 4)).all isDb && (((l.take e).drop fr).drop (((l.take e).drop fr).length - 4)).all isDb) := by
        conv => lhs; rw [hsp]
        rw [List.all_append]
      rw [gR_ne hne, hall]
      refine Lv.bind in12.ev ?_
      cases h1 : (((l.take e).drop fr).drop (((l.take e).drop fr).length - 4)).all isDb with
      | false =>
        simp only [Bool.and_false, Bool.false_eq_true, if_false]
        exact .now fun _ _ => rfl
      | true =>
        simp only [if_true, Bool.and_true, List.length_cons, List.length_nil, if_pos (lt47_of (show acc.length + (0 + 1) < 2199023255552 by omega)), w4]
        by_cases c4 : (fr : Int) ≤ (e : Int) - ((4 : Nat) : Int)
        · obtain ⟨e', he'⟩ : ∃ e' : Nat, e = e' + 4 := ⟨e - 4, by omega⟩
          have hq : (e : Int) - ((4 : Nat) : Int) = (e' : Int) := by omega
          have htk : ((l.take e).drop fr).take (((l.take e).drop fr).length - 4) = (l.take e').drop fr := by
            rw [hseg, List.take_drop, List.take_take]; congr 2; omega
          rw [htk, hq]
          have := ih e' (acc ++ [(hor 0 (((l.take e).drop fr).drop (((l.take e).drop fr).length - 4)) : Int)]) (by omega) (by omega) (by omega) (by rw [List.length_append]; simp; omega)
          rw [List.append_assoc] at this
          exact this
        · have htk : ((l.take e).drop fr).take (((l.take e).drop fr).length - 4) = [] := by rw [hseg, show e - fr - 4 = 0 by omega]; rfl
          rw [htk]
          refine Lv.step (g := fun k n => spec_ParseNum.s8 k (spec_ParseNum.l8 k n) (mkS l) (fr : Int) ((e : Int) - ((4 : Nat) : Int)) b2 (acc ++ [(hor 0 (((l.take e).drop fr).drop (((l.take e).drop fr).length - 4)) : Int)])) ?_ (fun _ _ => rfl)
          simp only [spec_ParseNum.s8, decide_eq_true_eq, if_neg (show ¬ (e : Int) - ((4 : Nat) : Int) > (fr : Int) by omega), List.all_nil, if_true, gR_nil]
          exact .now fun _ _ => rfl
    · have e0 : (l.take e).drop fr = [] := List.drop_eq_nil_of_le (by rw [List.length_take]; omega)
      rw [e0]
      simp only [spec_ParseNum.s8, decide_eq_true_eq, if_neg c, List.all_nil, if_true, gR_nil, List.append_nil]
      exact .now fun _ _ => rfl
end Go.Proofs.YtalkkenkeilmpaaDoor.Q
