/- Needed: the value of both. -/
import Derived.Test.YtalkkenkeilmpaaGreatZ4
namespace Go.Proofs.YtalkkenkeilmpaaGreat.Q
open Go Go.RowKit Go.Proofs Go.Proofs.YtalkkenkeilmpaaGreat.Ev Go.Proofs.YtalkkenkeilmpaaGreat.G
set_option linter.unusedSimpArgs false
set_option linter.unusedVariables false

theorem eq4_b (p q : S4) : ((p.a == q.a) && ((p.b == q.b) && ((p.c == q.c) && (p.d == q.d)))) = decide (p = q) := by
  rw [Bool.eq_iff_iff]
  simp only [Bool.and_eq_true, beq_iff_eq, decide_eq_true_eq]
  exact ⟨fun ⟨a, b, c, d⟩ => S4_eq a b c d, fun h => by subst h; exact ⟨rfl, rfl, rfl, rfl⟩⟩
def oth (L : List S4) (p : S4) : List S4 := L.filter fun q => decide (q ≠ p)
def fstB (L : List S4) (i : Nat) : Bool := !anyF (fun j => decide (rd L (j : Int) = rd L (i : Int))) i 0
theorem fstB_iff {L : List S4} {i : Nat} : fstB L i = true ↔ ∀ j : Nat, j < i → rd L (j : Int) ≠ rd L (i : Int) := by
  unfold fstB
  rw [Bool.not_eq_true', ← Bool.not_eq_true, anyF_iff]
  simp only [decide_eq_true_eq]
  constructor
  · intro h j hj e; exact h ⟨j, by omega, by omega, e⟩
  · rintro h ⟨j, _, hj, e⟩; exact h j (by omega) e
def nb (L : List S4) (i : Nat) : Bool := fstB L i && !wl (oth L (rd L (i : Int))) (flp (rd L (i : Int)))
def ndF (L : List S4) : Nat → Nat → List Int
  | 0, _ => []
  | d + 1, i => (if nb L i = true then [(i : Int)] else []) ++ ndF L d (i + 1)
theorem ndF_len (L : List S4) : ∀ d i, (ndF L d i).length ≤ d
  | 0, _ => Nat.zero_le _
  | d + 1, i => by
    have := ndF_len L d (i + 1)
    rw [ndF, List.length_append]
    split <;> simp only [List.length_cons, List.length_nil] <;> omega
theorem oth_drop {L : List S4} {p : S4} {i : Nat} (h : i < L.length) : oth (L.drop i) p = (if rd L (i : Int) ≠ p then [rd L (i : Int)] else []) ++ oth (L.drop (i + 1)) p := by
  unfold oth
  rw [← List.getElem_cons_drop h, List.filter_cons, rd_in h]
  by_cases c : L[i] = p <;> simp [c]
theorem oth_len (L : List S4) (p : S4) : (oth L p).length ≤ L.length := List.length_filter_le _ _
theorem oth_ok {L : List S4} (hL : ∀ p ∈ L, okp p = true) (p : S4) : ∀ q ∈ oth L p, okp q = true := fun q hq => hL q (List.mem_filter.1 hq).1
theorem index_l2 {L : List S4} (hl : L.length ≤ 2097152) {i : Nat} (hi : i < L.length) : ∀ (d j : Nat), i - j = d → j ≤ i → (∀ m : Nat, m < j → rd L (m : Int) ≠ rd L (i : Int)) →
    ∃ m : Nat, (m = i ↔ fstB L i = true) ∧ Lv (fun k n => slices_Index.l2 k n L (L.length : Int) (j : Int) (rd L (i : Int))) (.inl (((m : Int), ()), ())) := by
  intro d
  induction d with
  | zero =>
    intro j hd hj hb
    have : j = i := by omega
    subst this
    refine ⟨j, ⟨fun _ => fstB_iff.2 hb, fun _ => rfl⟩, ?_⟩
    refine Lv.step (g := fun k n => slices_Index.s2 k (slices_Index.l2 k n) L (L.length : Int) (j : Int) (rd L (j : Int))) ?_ (fun _ _ => rfl)
    simp only [slices_Index.s2, decide_eq_true_eq, eq4_b, if_pos (show (j : Int) < (L.length : Int) by omega), if_pos (Int.natCast_nonneg _), if_true]
    exact .now fun _ _ => rfl
  | succ d ih =>
    intro j hd hj hb
    by_cases c : rd L (i : Int) = rd L (j : Int)
    · refine ⟨j, ⟨fun h => by omega, fun h => absurd c.symm (fstB_iff.1 h j (by omega))⟩, ?_⟩
      refine Lv.step (g := fun k n => slices_Index.s2 k (slices_Index.l2 k n) L (L.length : Int) (j : Int) (rd L (i : Int))) ?_ (fun _ _ => rfl)
      simp only [slices_Index.s2, decide_eq_true_eq, eq4_b, if_pos (show (j : Int) < (L.length : Int) by omega), if_pos (Int.natCast_nonneg _), if_pos c]
      exact .now fun _ _ => rfl
    · obtain ⟨m, h1, h2⟩ := ih (j + 1) (by omega) (by omega) (fun m hm => by
        by_cases e : m = j
        · subst e; exact fun h => c h.symm
        · exact hb m (by omega))
      refine ⟨m, h1, ?_⟩
      refine Lv.step (g := fun k n => slices_Index.s2 k (slices_Index.l2 k n) L (L.length : Int) (j : Int) (rd L (i : Int))) ?_ (fun _ _ => rfl)
      simp only [slices_Index.s2, decide_eq_true_eq, eq4_b, if_pos (show (j : Int) < (L.length : Int) by omega), if_pos (Int.natCast_nonneg _), if_neg c, wrn (show j < L.length by omega) hl]
      exact h2
theorem index_ev {L : List S4} (hl : L.length ≤ 2097152) {i : Nat} (hi : i < L.length) : ∃ m : Nat, (m = i ↔ fstB L i = true) ∧ Ev (fun k => slices_Index.f k L (rd L (i : Int))) (m : Int) := by
  obtain ⟨m, h1, h2⟩ := index_l2 hl hi i 0 (by omega) (by omega) (fun m hm => by omega)
  refine ⟨m, h1, ?_⟩
  unfold slices_Index.f
  exact h2.ev.bind (.now fun _ => rfl)
theorem needed_l8 {L x9 : List S4} (hl : L.length ≤ 2097152) {i x10 x11 : Int} {p : S4} {acc : List Int} : ∀ (d j : Nat) (o : List S4), L.length - j = d → j ≤ L.length → o.length ≤ j →
    Lv (fun k n => impl_needed.l8 k n L i x9 x10 x11 L (L.length : Int) (j : Int) p acc o) ((L, (), i, (), (), x9, x10, x11, ()), (p, acc, o ++ oth (L.drop j) p, ())) := by
  intro d
  induction d with
  | zero =>
    intro j o hd hj ho
    refine Lv.step (g := fun k n => impl_needed.s8 k (impl_needed.l8 k n) L i x9 x10 x11 L (L.length : Int) (j : Int) p acc o) ?_ (fun _ _ => rfl)
    rw [List.drop_eq_nil_of_le (by omega)]
    simp only [impl_needed.s8, decide_eq_true_eq, if_neg (show ¬ (j : Int) < (L.length : Int) by omega), oth, List.filter_nil, List.append_nil]
    exact .now fun _ _ => rfl
  | succ d ih =>
    intro j o hd hj ho
    have hj' : j < L.length := by omega
    refine Lv.step (g := fun k n => impl_needed.s8 k (impl_needed.l8 k n) L i x9 x10 x11 L (L.length : Int) (j : Int) p acc o) ?_ (fun _ _ => rfl)
    simp only [impl_needed.s8, eq4_b, wrn hj' hl, if_pos (show (0 : Int) ≤ (j : Int) by omega), if_pos (show (j : Int) < (L.length : Int) by omega), decide_eq_true (show (j : Int) < (L.length : Int) by omega), if_true, List.length_cons, List.length_nil, if_pos (lt47_ok (show o.length + (0 + 1) < 2199023255552 by omega))]
    rw [oth_drop hj']
    by_cases c : rd L (j : Int) = p
    · simp only [c, decide_true, Bool.not_true, Bool.false_eq_true, if_false, ne_eq, not_true_eq_false, List.nil_append]
      exact ih (j + 1) o (by omega) (by omega) (by omega)
    · simp only [c, decide_false, Bool.not_false, if_true, ne_eq, not_false_eq_true]
      rw [← List.append_assoc]
      exact ih (j + 1) _ (by omega) (by omega) (by simp only [List.length_append, List.length_cons, List.length_nil]; omega)
theorem needed_l3 {L : List S4} (hL : ∀ p ∈ L, okp p = true) (hl : L.length ≤ 2097152) : ∀ (d i : Nat) (acc : List Int), L.length - i = d → i ≤ L.length → acc.length ≤ i →
    Lv (fun k n => impl_needed.l3 k n L L (L.length : Int) (i : Int) acc) (((), ()), (acc ++ ndF L d i, ())) := by
  intro d
  induction d with
  | zero =>
    intro i acc hd hi ha
    refine Lv.step (g := fun k n => impl_needed.s3 k (impl_needed.l3 k n) L L (L.length : Int) (i : Int) acc) ?_ (fun _ _ => rfl)
    simp only [impl_needed.s3, decide_eq_true_eq, if_neg (show ¬ (i : Int) < (L.length : Int) by omega), ndF, List.append_nil]
    exact .now fun _ _ => rfl
  | succ d ih =>
    intro i acc hd hi ha
    have hi' : i < L.length := by omega
    refine Lv.step (g := fun k n => impl_needed.s3 k (impl_needed.l3 k n) L L (L.length : Int) (i : Int) acc) ?_ (fun _ _ => rfl)
    obtain ⟨m, hm, he⟩ := index_ev hl hi'
    simp only [impl_needed.s3, decide_eq_true (show (i : Int) < (L.length : Int) by omega), if_true, if_pos (Int.natCast_nonneg i), if_pos (show (i : Int) < (L.length : Int) by omega)]
    refine Lv.bind he ?_
    rw [ndF]
    by_cases c : fstB L i = true
    · have e := hm.2 c
      subst e
      simp only [bne_self_eq_false, Bool.false_eq_true, if_false]
      have l8 := needed_l8 (L := L) (x9 := L) hl (i := (m : Int)) (x10 := (L.length : Int)) (x11 := (m : Int)) (p := rd L (m : Int)) (acc := acc) L.length 0 [] (by omega) (by omega) (by simp)
      rw [List.drop_zero, List.nil_append] at l8
      refine Lv.bind l8.ev ?_
      simp only [flip_f _ (rdB hL (m : Int)), Option.bind_some]
      refine Lv.bind (room_ev (oth_ok hL _) (okp_bd4 (flp_ok (rd_ok hL hi'))) (Nat.le_trans (oth_len _ _) hl)) ?_
      simp only [nb, c, Bool.true_and, wrn hi' hl, List.length_cons, List.length_nil, if_pos (lt47_ok (show acc.length + (0 + 1) < 2199023255552 by omega))]
      cases hw : !wl (oth L (rd L (m : Int))) (flp (rd L (m : Int)))
      · simp only [Bool.false_eq_true, if_false, List.nil_append]
        exact ih (m + 1) acc (by omega) (by omega) (by omega)
      · simp only [if_true]
        rw [← List.append_assoc]
        exact ih (m + 1) _ (by omega) (by omega) (by simp only [List.length_append, List.length_cons, List.length_nil]; omega)
    · have e : (((m : Int) != (i : Int)) = true) := by
        rw [bne_iff_ne]; intro h; exact c (hm.1 (by omega))
      have c2 : fstB L i = false := by simpa using c
      simp only [e, if_true, nb, c2, Bool.false_and, Bool.false_eq_true, if_false, List.nil_append, wrn hi' hl]
      exact ih (i + 1) acc (by omega) (by omega) (by omega)
def ndV (L : List S4) : List Int := if opV L = true then ndF L L.length 0 else []
theorem iNeeded_ev {L : List S4} (hl : L.length ≤ 2097152) : Ev (fun k => impl_Needed.f k L) (ndV L) := by
  unfold impl_Needed.f ndV
  refine (iOpen_ev hl).bind ?_
  cases h : opV L with
  | false => simp only [Bool.not_false, if_true, Bool.false_eq_true, if_false]; exact .now fun _ => rfl
  | true =>
    have hL := (Rk.opV_ok h).1
    simp only [Bool.not_true, Bool.false_eq_true, if_false, if_true]
    refine Ev.bind ?_ (.now fun _ => rfl)
    unfold impl_needed.f
    have := needed_l3 hL hl L.length 0 [] (by omega) (by omega) (by simp)
    rw [List.nil_append] at this
    exact this.ev.bind (.now fun _ => rfl)
/-- the reference's loop -/
def hB (L : List S4) (i m : Nat) : Bool := decide (m < i) && decide (rd L (m : Int) = rd L (i : Int))
theorem sNeeded_l8 {L : List S4} (hl : L.length ≤ 2097152) {i : Nat} (hi : i < L.length) {acc : List Int} : ∀ (d j : Nat) (f : Bool) (o : List S4), L.length - j = d → j ≤ L.length → o.length ≤ j →
    Lv (fun k n => spec_l7Needed.l8 k n L (i : Int) f (j : Int) acc o) ((L, (), (i : Int), (), f && !anyF (hB L i) d j, ()), (acc, o ++ oth (L.drop j) (rd L (i : Int)), ())) := by
  intro d
  induction d with
  | zero =>
    intro j f o hd hj ho
    refine Lv.step (g := fun k n => spec_l7Needed.s8 k (spec_l7Needed.l8 k n) L (i : Int) f (j : Int) acc o) ?_ (fun _ _ => rfl)
    rw [List.drop_eq_nil_of_le (by omega)]
    simp only [spec_l7Needed.s8, decide_eq_true_eq, if_neg (show ¬ (j : Int) < (L.length : Int) by omega), oth, List.filter_nil, List.append_nil, anyF, Bool.not_false, Bool.and_true]
    exact .now fun _ _ => rfl
  | succ d ih =>
    intro j f o hd hj ho
    have hj' : j < L.length := by omega
    refine Lv.step (g := fun k n => spec_l7Needed.s8 k (spec_l7Needed.l8 k n) L (i : Int) f (j : Int) acc o) ?_ (fun _ _ => rfl)
    simp only [spec_l7Needed.s8, eq4_b, wrn hj' hl, if_pos (show (0 : Int) ≤ (j : Int) by omega), if_pos (show (0 : Int) ≤ (i : Int) by omega), if_pos (show (j : Int) < (L.length : Int) by omega), if_pos (show (i : Int) < (L.length : Int) by omega), decide_eq_true (show (j : Int) < (L.length : Int) by omega), if_true, List.length_cons, List.length_nil, if_pos (lt47_ok (show o.length + (0 + 1) < 2199023255552 by omega))]
    rw [oth_drop hj', anyF]
    have hge : decide ((j : Int) ≥ (i : Int)) = !decide (j < i) := by
      rw [Bool.eq_iff_iff]; simp only [Bool.not_eq_true', decide_eq_true_eq, decide_eq_false_iff_not]; omega
    by_cases cj : j = i
    · subst cj
      have e : hB L j j = false := by simp [hB]
      simp only [beq_self_eq_true, if_true, e, Bool.false_or, ne_eq, not_true_eq_false, if_false, List.nil_append, ge_iff_le, Int.le_refl, decide_true]
      cases f with
      | false => simp only [Bool.false_eq_true, if_false]; exact ih (j + 1) false o (by omega) (by omega) (by omega)
      | true => simp only [if_true]; exact ih (j + 1) true o (by omega) (by omega) (by omega)
    · have e0 : (((j : Int) == (i : Int)) = false) := by rw [beq_eq_false_iff_ne]; omega
      simp only [e0, Bool.false_eq_true, if_false]
      by_cases c : rd L (j : Int) = rd L (i : Int)
      · have eh : hB L i j = decide (j < i) := by simp [hB, c]
        simp only [c, decide_true, if_true, hge, eh, ne_eq, not_true_eq_false, if_false, List.nil_append]
        have := ih (j + 1) (f && !decide (j < i)) o (by omega) (by omega) (by omega)
        rw [Bool.not_or, ← Bool.and_assoc]
        cases f with
        | false => simp only [Bool.false_eq_true, if_false]; exact this
        | true => simp only [if_true]; exact this
      · have eh : hB L i j = false := by simp [hB, c]
        simp only [c, decide_false, Bool.false_eq_true, if_false, eh, Bool.false_or, ne_eq, not_false_eq_true, if_true]
        rw [← List.append_assoc]
        exact ih (j + 1) f _ (by omega) (by omega) (by simp only [List.length_append, List.length_cons, List.length_nil]; omega)
theorem hB_fst {L : List S4} {i : Nat} (hi : i < L.length) : (true && !anyF (hB L i) L.length 0) = fstB L i := by
  rw [Bool.true_and, Bool.eq_iff_iff, fstB_iff, Bool.not_eq_true', ← Bool.not_eq_true, anyF_iff]
  simp only [hB, Bool.and_eq_true, decide_eq_true_eq]
  constructor
  · intro h j hj e; exact h ⟨j, by omega, by omega, hj, e⟩
  · rintro h ⟨j, _, _, hj, e⟩; exact h j hj e
theorem sNeeded_l3 {L : List S4} (hL : ∀ p ∈ L, okp p = true) (hl : L.length ≤ 2097152) : ∀ (d i : Nat) (acc : List Int), L.length - i = d → i ≤ L.length → acc.length ≤ i →
    Lv (fun k n => spec_l7Needed.l3 k n L (i : Int) acc) (((), ()), (acc ++ ndF L d i, ())) := by
  intro d
  induction d with
  | zero =>
    intro i acc hd hi ha
    refine Lv.step (g := fun k n => spec_l7Needed.s3 k (spec_l7Needed.l3 k n) L (i : Int) acc) ?_ (fun _ _ => rfl)
    simp only [spec_l7Needed.s3, decide_eq_true_eq, if_neg (show ¬ (i : Int) < (L.length : Int) by omega), ndF, List.append_nil]
    exact .now fun _ _ => rfl
  | succ d ih =>
    intro i acc hd hi ha
    have hi' : i < L.length := by omega
    refine Lv.step (g := fun k n => spec_l7Needed.s3 k (spec_l7Needed.l3 k n) L (i : Int) acc) ?_ (fun _ _ => rfl)
    simp only [spec_l7Needed.s3, decide_eq_true (show (i : Int) < (L.length : Int) by omega), if_true]
    have l8 := sNeeded_l8 hl hi' (acc := acc) L.length 0 true [] (by omega) (by omega) (by simp)
    rw [List.drop_zero, List.nil_append, hB_fst hi'] at l8
    refine Lv.bind l8.ev ?_
    rw [ndF]
    cases c : fstB L i
    · simp only [Bool.false_eq_true, if_false, nb, c, Bool.false_and, List.nil_append, wrn hi' hl]
      exact ih (i + 1) acc (by omega) (by omega) (by omega)
    · simp only [if_true, if_pos (Int.natCast_nonneg i), if_pos (show (i : Int) < (L.length : Int) by omega), l3Flip_f _ (rdB hL (i : Int)), Option.bind_some]
      refine Lv.bind (l6With_ev (oth_ok hL _) (okp_bd4 (flp_ok (rd_ok hL hi'))) (Nat.le_trans (oth_len _ _) hl)) ?_
      simp only [nb, c, Bool.true_and, wrn hi' hl, List.length_cons, List.length_nil, if_pos (lt47_ok (show acc.length + (0 + 1) < 2199023255552 by omega))]
      cases hw : !wl (oth L (rd L (i : Int))) (flp (rd L (i : Int)))
      · simp only [Bool.false_eq_true, if_false, List.nil_append]
        exact ih (i + 1) acc (by omega) (by omega) (by omega)
      · simp only [if_true]
        rw [← List.append_assoc]
        exact ih (i + 1) _ (by omega) (by omega) (by simp only [List.length_append, List.length_cons, List.length_nil]; omega)
theorem sNeeded_ev {L : List S4} (hl : L.length ≤ 2097152) : Ev (fun k => spec_Needed.f k L) (ndV L) := by
  unfold spec_Needed.f ndV
  refine (sOpen_ev hl).bind ?_
  cases h : opV L with
  | false => simp only [Bool.not_false, if_true, Bool.false_eq_true, if_false]; exact .now fun _ => rfl
  | true =>
    have hL := (Rk.opV_ok h).1
    simp only [Bool.not_true, Bool.false_eq_true, if_false, if_true]
    refine Ev.bind ?_ (.now fun _ => rfl)
    unfold spec_l7Needed.f
    have := sNeeded_l3 hL hl L.length 0 [] (by omega) (by omega) (by simp)
    rw [List.nil_append] at this
    exact this.ev.bind (.now fun _ => rfl)
end Go.Proofs.YtalkkenkeilmpaaGreat.Q
