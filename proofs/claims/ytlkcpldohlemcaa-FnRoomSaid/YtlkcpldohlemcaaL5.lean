/- FnBlamed: what is to blame has no point together, and any fewer have. -/
import Derived.Test.YtlkcpldohlemcaaN5
import Derived.Test.YtlkcpldohlemcaaP15
namespace Go.Proofs.Ytlkcpldohlemcaa.Q
open Go Go.RowKit Go.Proofs Go.Proofs.Ytlkcpldohlemcaa.Ev Go.Proofs.Ytlkcpldohlemcaa.G
set_option linter.unusedSimpArgs false
set_option linter.unusedVariables false

def opV (L : List S4) : Bool := L.all okp && decide (L.length ≤ 24) && opn L
theorem iOpen_ev {L : List S4} (hl : L.length ≤ 2097152) : Ev (fun k => impl_Open.f k L) (opV L) := by
  simp only [impl_Open.f, decide_eq_true_eq]
  unfold opV
  by_cases c : L.length ≤ 24
  · simp only [if_pos (show (L.length : Int) ≤ 24 by omega)]
    refine (planesOk_ev hl).bind ?_
    cases ha : L.all okp with
    | false => exact .now fun _ => rfl
    | true =>
      simp only [if_true, c, decide_true, Bool.and_self, Bool.true_and]
      exact (open_ev (fun p hp => List.all_eq_true.1 ha p hp) hl).bind (.now fun _ => rfl)
  · simp only [if_neg (show ¬ (L.length : Int) ≤ 24 by omega), c, decide_false, Bool.and_false, Bool.false_and]
    exact .now fun _ => rfl
theorem sOpen_ev {L : List S4} (hl : L.length ≤ 2097152) : Ev (fun k => spec_Open.f k L) (opV L) := by
  simp only [spec_Open.f]
  unfold opV
  refine (l6Right_ev hl).bind ?_
  cases ha : L.all okp && decide (L.length ≤ 24) with
  | false => exact .now fun _ => rfl
  | true =>
    rw [Bool.and_eq_true] at ha
    simp only [if_true, Bool.true_and]
    exact (l6Open_ev (fun p hp => List.all_eq_true.1 ha.1 p hp) hl).bind (.now fun _ => rfl)
theorem big_ev (a : List Int) : Ev (fun k => laws_big.f k a) (decide ((a.length : Int) > 1048576)) := .now fun _ => rfl
theorem fnd_some2 {α : Type} {f : Nat → Option α} {r : α} : ∀ {d i : Nat}, fnd f d i = some r → ∃ j, i ≤ j ∧ j < i + d ∧ f j = some r
  | 0, i, h => by cases h
  | d + 1, i, h => by
    simp only [fnd] at h
    cases hf : f i with
    | some a => rw [hf] at h; cases h; exact ⟨i, by omega, by omega, hf⟩
    | none => rw [hf] at h; obtain ⟨j, h1, h2, h3⟩ := fnd_some2 h; exact ⟨j, by omega, by omega, h3⟩
/-- places in a row, one behind the other, in the list. -/
def Inc (n : Nat) (v : List Nat) : Prop := (∀ x ∈ v, x < n) ∧ v.Pairwise (· < ·)
def ints (v : List Nat) : List Int := v.map fun (x : Nat) => (x : Int)
def atL (L : List S4) (v : List Nat) : List S4 := v.map fun (x : Nat) => rd L (x : Int)
/-- what Blame's answer holds to. -/
theorem BlameR.val {L : List S4} {v : List Int} (h : BlameR L v) (hv : v ≠ []) : L.length ≤ 24 ∧ L.all okp = true ∧ ∃ w : List Nat, v = ints w ∧ 2 ≤ w.length ∧ w.length ≤ 4 ∧ Inc L.length w ∧ opn (atL L w) = false ∧ ∀ i, i < w.length → opn (atL L (w.eraseIdx i)) = true := by
  rcases h with rfl | ⟨h24, hok, _, h | ⟨h2, h | ⟨h3, h⟩⟩⟩
  · exact absurd rfl hv
  · refine ⟨h24, hok, ?_⟩
    unfold p2 at h
    obtain ⟨i, _, i1, h⟩ := fnd_some2 h
    unfold b2_1 at h
    obtain ⟨j, j0, j1, h⟩ := fnd_some2 h
    unfold a2 at h
    split at h
    case isFalse => cases h
    rename_i c
    cases h
    refine ⟨[i, j], rfl, by simp, by simp, ⟨by simp; omega, by simp; omega⟩, ?_, fun m hm => ?_⟩
    · show opn [rd L i, rd L j] = false
      rw [opn2, c]; rfl
    · have one : ∀ p : S4, opn [p] = true := fun p => by simp [opn, opF, wl, anyF, w2, w3, w4, rd]
      match m, hm with
      | 0, _ => exact one _
      | 1, _ => exact one _
  · refine ⟨h24, hok, ?_⟩
    unfold p3 at h
    obtain ⟨i, _, i1, h⟩ := fnd_some2 h
    unfold b3_1 at h
    obtain ⟨j, j0, j1, h⟩ := fnd_some2 h
    unfold b3_2 at h
    obtain ⟨k, k0, k1, h⟩ := fnd_some2 h
    unfold a3 at h
    split at h
    case isFalse => cases h
    rename_i c
    cases h
    have n2 := p2_none h2
    have q1 := n2 i j (by omega) (by omega)
    have q2 := n2 i k (by omega) (by omega)
    have q3 := n2 j k (by omega) (by omega)
    refine ⟨[i, j, k], rfl, by simp, by simp, ⟨by simp; omega, by simp; omega⟩, ?_, fun m hm => ?_⟩
    · show opn [rd L i, rd L j, rd L k] = false
      rw [opn3 q1 q2 q3, c]; rfl
    · match m, hm with
      | 0, _ => show opn [rd L j, rd L k] = true; rw [opn2, q3]; rfl
      | 1, _ => show opn [rd L i, rd L k] = true; rw [opn2, q2]; rfl
      | 2, _ => show opn [rd L i, rd L j] = true; rw [opn2, q1]; rfl
  · refine ⟨h24, hok, ?_⟩
    unfold p4 at h
    obtain ⟨i, _, i1, h⟩ := fnd_some2 h
    unfold b4_1 at h
    obtain ⟨j, j0, j1, h⟩ := fnd_some2 h
    unfold b4_2 at h
    obtain ⟨k, k0, k1, h⟩ := fnd_some2 h
    unfold b4_3 at h
    obtain ⟨m, m0, m1, h⟩ := fnd_some2 h
    unfold a4 at h
    split at h
    case isFalse => cases h
    rename_i c
    cases h
    have n2 := p2_none h2
    have n3 := p3_none h3
    have q1 := n2 i j (by omega) (by omega)
    have q2 := n2 i k (by omega) (by omega)
    have q3 := n2 j k (by omega) (by omega)
    have q4 := n2 i m (by omega) (by omega)
    have q5 := n2 j m (by omega) (by omega)
    have q6 := n2 k m (by omega) (by omega)
    have t1 := n3 i j k (by omega) (by omega) (by omega)
    have t2 := n3 i j m (by omega) (by omega) (by omega)
    have t3 := n3 i k m (by omega) (by omega) (by omega)
    have t4 := n3 j k m (by omega) (by omega) (by omega)
    refine ⟨[i, j, k, m], rfl, by simp, by simp, ⟨by simp; omega, by simp; omega⟩, ?_, fun z hz => ?_⟩
    · show opn [rd L i, rd L j, rd L k, rd L m] = false
      rw [opn4 q1 q2 q3 q4 q5 q6 t1 t2 t3 t4, c]; rfl
    · match z, hz with
      | 0, _ => show opn [rd L j, rd L k, rd L m] = true; rw [opn3 q3 q5 q6, t4]; rfl
      | 1, _ => show opn [rd L i, rd L k, rd L m] = true; rw [opn3 q2 q4 q6, t3]; rfl
      | 2, _ => show opn [rd L i, rd L j, rd L m] = true; rw [opn3 q1 q4 q5, t2]; rfl
      | 3, _ => show opn [rd L i, rd L j, rd L k] = true; rw [opn3 q1 q2 q3, t1]; rfl
theorem atL_ok {L : List S4} (h : L.all okp = true) {w : List Nat} (hw : ∀ x ∈ w, x < L.length) : (atL L w).all okp = true := by
  rw [List.all_eq_true]
  intro p hp
  obtain ⟨x, hx, rfl⟩ := List.mem_map.1 hp
  rw [rd_in (hw x hx)]
  exact List.all_eq_true.1 h _ (List.getElem_mem _)
theorem blamed_l12 {L : List S4} {w : List Nat} (hl : L.length ≤ 24) (hwl : w.length ≤ 4) (hw : Inc L.length w) : ∀ (d i : Nat), w.length - i = d → i ≤ w.length → ∀ part : List S4, part = atL L (w.take i) →
    Lv (fun k n => laws_FnBlamed.l12 k n (i : Int) L (ints w) part) (.inr (((), (), ()), (ints w, atL L w, ()))) := by
  intro d
  have il : (ints w).length = w.length := List.length_map ..
  induction d with
  | zero =>
    intro i hd hi part hp
    refine Lv.step (g := fun k n => laws_FnBlamed.s12 k (laws_FnBlamed.l12 k n) (i : Int) L (ints w) part) ?_ (fun _ _ => rfl)
    simp only [laws_FnBlamed.s12, decide_eq_true_eq, il, if_neg (show ¬ (i : Int) < (w.length : Int) by omega)]
    rw [List.take_of_length_le (by omega)] at hp
    subst hp
    exact .now fun _ _ => rfl
  | succ d ih =>
    intro i hd hi part hp
    have hi' : i < w.length := by omega
    have gv : ∀ j (hj : j < w.length), (ints w).getD j default = ((w[j] : Nat) : Int) := fun j hj => by
      unfold ints
      simp [List.getD_eq_getElem?_getD, hj]
    have hr := hw.1 w[i] (List.getElem_mem _)
    have pl : part.length ≤ 4 := by subst hp; unfold atL; simp; omega
    have w1 : W ((i : Int) + 1) = ((i + 1 : Nat) : Int) := by rw [W_small (by omega) (by omega)]; omega
    have lt : ∀ p : S4, lt47 (part.length + ([p] : List S4).length) = true := fun p => lt47_one (by omega)
    have nxt : part ++ [rd L ((w[i] : Nat) : Int)] = atL L (w.take (i + 1)) := by
      subst hp
      unfold atL
      rw [List.take_add_one, List.map_append]
      simp [hi']
    have go := ih (i + 1) (by omega) (by omega) _ nxt
    refine Lv.step (g := fun k n => laws_FnBlamed.s12 k (laws_FnBlamed.l12 k n) (i : Int) L (ints w) part) ?_ (fun _ _ => rfl)
    simp only [laws_FnBlamed.s12, decide_eq_true_eq, il, Int.toNat_natCast, gv i hi', if_pos (show (i : Int) < (w.length : Int) by omega), if_pos (Int.natCast_nonneg _), if_pos hi', if_neg (show ¬ ((w[i] : Nat) : Int) < 0 by omega), if_neg (show ¬ ((w[i] : Nat) : Int) ≥ (L.length : Int) by omega), if_pos (show ((w[i] : Nat) : Int) < (L.length : Int) by omega), if_pos hr, lt, if_true, w1]
    by_cases c : (i : Int) > 0
    · obtain ⟨j, rfl⟩ : ∃ j, i = j + 1 := ⟨i - 1, by omega⟩
      have w2 : W (((j + 1 : Nat) : Int) - 1) = (j : Int) := by rw [W_small (by omega) (by omega)]; omega
      have lt2 : w[j] < w[j + 1] := List.pairwise_iff_getElem.1 hw.2 j (j + 1) (by omega) hi' (by omega)
      simp only [if_pos c, w2, Int.toNat_natCast, if_pos (Int.natCast_nonneg _), if_pos (show (j : Int) < (w.length : Int) by omega), if_pos (show j < w.length by omega), gv j (by omega), if_neg (show ¬ ((w[j] : Nat) : Int) ≥ ((w[j + 1] : Nat) : Int) by omega)]
      exact go
    · simp only [if_neg c]
      exact go
theorem atL_cut {L : List S4} {w : List Nat} {i : Nat} : ([] ++ (atL L w).take i) ++ (atL L w).drop (i + 1) = atL L (w.eraseIdx i) := by
  unfold atL
  rw [List.nil_append, ← List.map_take, ← List.map_drop, ← List.map_append, List.eraseIdx_eq_take_drop_succ]
theorem opV_of {L : List S4} {w : List Nat} (h : L.all okp = true) (hw : ∀ x ∈ w, x < L.length) (hl : w.length ≤ 4) : opV (atL L w) = opn (atL L w) := by
  unfold opV
  rw [atL_ok h hw, show (atL L w).length = w.length from List.length_map .., decide_eq_true (by omega : w.length ≤ 24)]; rfl
theorem blamed_l18 {L : List S4} (hok : L.all okp = true) {w : List Nat} (hwl : w.length ≤ 4) (hw : Inc L.length w) (ho : ∀ i, i < w.length → opn (atL L (w.eraseIdx i)) = true) : ∀ (d i : Nat), w.length - i = d → i ≤ w.length →
    Lv (fun k n => laws_FnBlamed.l18 k n (atL L w) (i : Int) (ints w)) (.inr (((), atL L w, ()), (ints w, ()))) := by
  intro d
  have al : (atL L w).length = w.length := List.length_map ..
  induction d with
  | zero =>
    intro i hd hi
    refine Lv.step (g := fun k n => laws_FnBlamed.s18 k (laws_FnBlamed.l18 k n) (atL L w) (i : Int) (ints w)) ?_ (fun _ _ => rfl)
    simp only [laws_FnBlamed.s18, decide_eq_true_eq, al, if_neg (show ¬ (i : Int) < (w.length : Int) by omega)]
    exact .now fun _ _ => rfl
  | succ d ih =>
    intro i hd hi
    have hi' : i < w.length := by omega
    have w1 : W ((i : Int) + 1) = ((i + 1 : Nat) : Int) := by rw [W_small (by omega) (by omega)]; omega
    have lt1 : lt47 (([] : List S4).length + ((atL L w).take i).length) = true := lt47_of (by simp [al]; omega)
    have lt2 : lt47 (([] ++ (atL L w).take i).length + ((atL L w).drop (i + 1)).length) = true := lt47_of (by simp [al]; omega)
    have sub : ∀ x ∈ w.eraseIdx i, x < L.length := fun x hx => hw.1 x (List.mem_of_mem_eraseIdx hx)
    have ln : (w.eraseIdx i).length ≤ 4 := by rw [List.length_eraseIdx]; split <;> omega
    refine Lv.step (g := fun k n => laws_FnBlamed.s18 k (laws_FnBlamed.l18 k n) (atL L w) (i : Int) (ints w)) ?_ (fun _ _ => rfl)
    simp only [laws_FnBlamed.s18, decide_eq_true_eq, al, w1, Int.toNat_natCast, lt1, lt2, if_true, if_pos (show (i : Int) < (w.length : Int) by omega), if_pos (Int.natCast_nonneg _), if_pos (show (i : Int) ≤ (w.length : Int) by omega), if_pos (show ((i + 1 : Nat) : Int) ≤ (w.length : Int) by omega), atL_cut]
    refine Lv.bind (iOpen_ev (by unfold atL; simp; omega)) ?_
    rw [opV_of hok sub ln, ho i hi']
    simp only [Bool.not_true, Bool.false_eq_true, if_false]
    exact ih (i + 1) (by omega) (by omega)
theorem FnBlamed_pure {a : List Int} (_ : a.length ≤ 9223372036854775807 ∧ ∀ x ∈ a, 0 ≤ x ∧ x ≤ 255) : ∃ k, laws_FnBlamed.f k a = some true := by
  have key : Ev (fun k => laws_FnBlamed.f k a) true := by
    unfold laws_FnBlamed.f
    refine Ev.bind (big_ev a) ?_
    simp only [decide_eq_true_eq]
    by_cases hb : (a.length : Int) > 1048576
    · simp only [if_pos hb]; exact .now fun _ => rfl
    simp only [if_neg hb]
    obtain ⟨L, hd, hl⟩ := DrawBlame_ex (a := a) (by omega)
    refine Ev.bind hd ?_
    obtain ⟨v, hv, hs, hi⟩ := Blame_vals (L := L) (by omega)
    refine Ev.bind hi ?_
    refine Ev.bind (iOpen_ev (by omega)) ?_
    refine Ev.bind (sOpen_ev (by omega)) ?_
    simp only [beq_self_eq_true, Bool.not_true, Bool.false_eq_true, if_false]
    have hO : opV L = true → v = [] := fun h => by
      rcases hv with rfl | ⟨_, _, h1, _⟩
      · rfl
      · unfold opV at h; rw [h1] at h; simp at h
    by_cases c : opV L = true
    · simp only [if_pos c, hO c]; exact .now fun _ => rfl
    simp only [if_neg c]
    refine Ev.bind hs ?_
    by_cases cv : v = []
    · subst cv; exact .now fun _ => rfl
    have cl : ¬ ((v.length : Int) == 0) = true := by
      rw [beq_iff_eq]; have := List.length_pos_iff.2 cv; omega
    simp only [if_neg cl]
    obtain ⟨h24, hok, w, rfl, g2, g4, hw, hf, ho⟩ := hv.val cv
    refine Ev.bind (blamed_l12 h24 g4 hw _ 0 rfl (by omega) [] rfl).ev ?_
    refine Ev.bind (blamed_l18 hok g4 hw ho _ 0 rfl (by omega)).ev ?_
    have il : (ints w).length = w.length := List.length_map ..
    simp only [il, decide_eq_true_eq, if_pos (show (w.length : Int) ≥ 2 by omega), if_pos (show (w.length : Int) ≤ 4 by omega)]
    refine Ev.bind (iOpen_ev (L := atL L w) (by unfold atL; simp; omega)) ?_
    rw [opV_of hok hw.1 g4, hf]
    exact .now fun _ => rfl
  obtain ⟨K, h⟩ := key
  exact ⟨K, h K (Nat.le_refl _)⟩
end Go.Proofs.Ytlkcpldohlemcaa.Q
