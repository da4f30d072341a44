/- Blame of spec: the rows of places tried one behind the other. -/
import Derived.Test.YtlkcpldohlemcaaP11
namespace Go.Proofs.Ytlkcpldohlemcaa.Q
open Go Go.RowKit Go.Proofs Go.Proofs.Ytlkcpldohlemcaa.Ev Go.Proofs.Ytlkcpldohlemcaa.G
set_option linter.unusedSimpArgs false
set_option linter.unusedVariables false

def oe {α : Type} : Option α → Option α → Option α
  | some a, _ => some a
  | none, y => y
theorem l16_ok {L : List S4} {s : Nat} {r : List Int} (hs : r.length = s) (hs4 : s ≤ 4) (hr : ∀ i, i < s → 0 ≤ r.getD i default ∧ r.getD i default < (L.length : Int)) : ∀ (d i : Nat), s - i = d → i ≤ s → ∀ part : List S4, part.length ≤ i →
    Lv (fun k n => spec_Blame.l16 k n L (s : Int) (i : Int) r part) ((L, (s : Int), (), (), ()), (r, part ++ (r.drop i).map (rd L), ())) := by
  intro d
  induction d with
  | zero =>
    intro i hd hi part hp
    refine Lv.step (g := fun k n => spec_Blame.s16 k (spec_Blame.l16 k n) L (s : Int) (i : Int) r part) ?_ (fun _ _ => rfl)
    simp only [spec_Blame.s16, decide_eq_true_eq, if_neg (show ¬ (i : Int) < (s : Int) by omega)]
    rw [List.drop_eq_nil_of_le (by omega), List.map_nil, List.append_nil]
    exact .now fun _ _ => rfl
  | succ d ih =>
    intro i hd hi part hp
    have hi' : i < r.length := by omega
    obtain ⟨h0, h1⟩ := hr i (by omega)
    have w : W ((i : Int) + 1) = ((i + 1 : Nat) : Int) := by rw [W_small (by omega) (by omega)]; omega
    refine Lv.step (g := fun k n => spec_Blame.s16 k (spec_Blame.l16 k n) L (s : Int) (i : Int) r part) ?_ (fun _ _ => rfl)
    simp only [spec_Blame.s16, decide_eq_true_eq, Int.toNat_natCast, if_pos (show (i : Int) < (s : Int) by omega), if_pos (show (i : Int) < (r.length : Int) by omega), if_pos (Int.natCast_nonneg _), if_pos hi', if_pos h0, if_pos h1, w]
    simp only [if_pos (lt47_ok (show part.length + [rd L (r.getD i default)].length < 2199023255552 by simp only [List.length_cons, List.length_nil]; omega))]
    have e : part ++ (r.drop i).map (rd L) = (part ++ [rd L (r.getD i default)]) ++ (r.drop (i + 1)).map (rd L) := by
      rw [← List.getElem_cons_drop hi', List.map_cons, List.append_assoc]
      simp [List.getD_eq_getElem?_getD, hi']
    rw [e]
    exact ih (i + 1) (by omega) (by omega) _ (by simp; omega)
/-- one row tried. -/
theorem l12_try {L : List S4} (hL : ∀ p ∈ L, okp p = true) {s : Nat} {r : List Int} (hs : r.length = s) (hs4 : s ≤ 4) (hr : ∀ i, i < s → 0 ≤ r.getD i default ∧ r.getD i default < (L.length : Int)) {nx : Bool × List Int} {v : spec_Blame.B12} (hnx : Ev (fun k => spec_l6Next.f k r (L.length : Int)) nx)
    (h1 : opn (r.map (rd L)) = false → v = .inl (((), ()), (r, ()))) (h2 : opn (r.map (rd L)) = true → Lv (fun k n => spec_Blame.l12 k n L (s : Int) nx.1 nx.2) v) : Lv (fun k n => spec_Blame.l12 k n L (s : Int) true r) v := by
  have ok : ∀ p ∈ r.map (rd L), okp p = true := fun p hp => by
    obtain ⟨x, hx, rfl⟩ := List.mem_map.1 hp
    obtain ⟨i, hi, rfl⟩ := List.getElem_of_mem hx
    have := hr i (by omega)
    simp only [List.getD_eq_getElem?_getD, List.getElem?_eq_getElem hi, Option.getD_some] at this
    have e : rd L r[i] = L[r[i].toNat]'(by omega) := by simp [rd, List.getD_eq_getElem?_getD, show r[i].toNat < L.length by omega]
    rw [e]; exact hL _ (List.getElem_mem _)
  refine Lv.step (g := fun k n => spec_Blame.s12 k (spec_Blame.l12 k n) L (s : Int) true r) ?_ (fun _ _ => rfl)
  simp only [spec_Blame.s12, if_true]
  refine Lv.bind (l16_ok hs hs4 hr s 0 (by omega) (by omega) [] (by simp)).ev ?_
  simp only [List.drop_zero, List.nil_append]
  refine Lv.bind (l6Open_ev ok (by simp; omega)) ?_
  cases ho : opn (r.map (rd L)) with
  | false => rw [h1 ho]; exact .now fun _ _ => rfl
  | true => simp only [Bool.not_true, Bool.false_eq_true, if_false]; exact Lv.bind hnx (h2 ho)
theorem l12_end {L : List S4} {s : Int} {r : List Int} : Lv (fun k n => spec_Blame.l12 k n L s false r) (.inr ((L, s, ()), ())) := by
  refine Lv.step (g := fun k n => spec_Blame.s12 k (spec_Blame.l12 k n) L s false r) ?_ (fun _ _ => rfl)
  exact .now fun _ _ => by simp [spec_Blame.s12]
theorem opn2 (p q : S4) : opn [p, q] = !c2 p q := by
  simp [opn, opF, wl, anyF, w2, w3, w4, rd]
theorem opn3 {p q r : S4} (h1 : c2 p q = false) (h2 : c2 p r = false) (h3 : c2 q r = false) : opn [p, q, r] = !c3 p q r := by
  simp [opn, opF, wl, anyF, w2, w3, w4, rd, h1, h2, h3]
theorem opn4 {p q r s : S4} (h1 : c2 p q = false) (h2 : c2 p r = false) (h3 : c2 q r = false) (h4 : c2 p s = false) (h5 : c2 q s = false) (h6 : c2 r s = false) (g1 : c3 p q r = false) (g2 : c3 p q s = false) (g3 : c3 p r s = false) (g4 : c3 q r s = false) : opn [p, q, r, s] = !c4 p q r s := by
  simp [opn, opF, wl, anyF, w2, w3, w4, rd, h1, h2, h3, h4, h5, h6, g1, g2, g3, g4]
theorem fnd_none {α : Type} {f : Nat → Option α} : ∀ {d i : Nat}, fnd f d i = none → ∀ j, i ≤ j → j < i + d → f j = none
  | 0, i, _, j, h1, h2 => by omega
  | d + 1, i, h, j, h1, h2 => by
    simp only [fnd] at h
    cases hf : f i with
    | some a => rw [hf] at h; cases h
    | none =>
      rw [hf] at h
      by_cases e : j = i
      · rw [e]; exact hf
      · exact fnd_none h j (by omega) (by omega)
theorem sp2 {L : List S4} (hL : ∀ p ∈ L, okp p = true) (hn : L.length ≤ 24) : ∀ a i : Nat, L.length - i = a → ∀ b j : Nat, L.length - j = b → i < j → j < L.length →
    Lv (fun q m => spec_Blame.l12 q m L ((2 : Nat) : Int) true [(i : Int), (j : Int)]) (pick (oe (fnd (a2 L i) b j) (fnd (b2_1 L) (L.length - (i + 1)) (i + 1))) (fun r => .inl (((), ()), (r, ()))) (.inr ((L, ((2 : Nat) : Int), ()), ()))) := by
  intro a
  induction a using Nat.strongRecOn with
  | _ a iha =>
    intro i ha b
    induction b using Nat.strongRecOn with
    | _ b ihb =>
      intro j hb hij hj
      have hnx := next2 (n := (L.length : Int)) (i := (i : Int)) (j := (j : Int)) (by omega) (by omega) (by omega) (by omega)
      have hr : ∀ t, t < 2 → 0 ≤ ([(i : Int), (j : Int)] : List Int).getD t default ∧ ([(i : Int), (j : Int)] : List Int).getD t default < (L.length : Int) := fun t ht => by
        match t, ht with
        | 0, _ => show 0 ≤ (i : Int) ∧ (i : Int) < L.length; omega
        | 1, _ => show 0 ≤ (j : Int) ∧ (j : Int) < L.length; omega
      have eo : opn (([(i : Int), (j : Int)] : List Int).map (rd L)) = !c2 (rd L i) (rd L j) := opn2 _ _
      obtain ⟨b', rfl⟩ : ∃ b', b = b' + 1 := ⟨b - 1, by omega⟩
      have ef : fnd (a2 L i) (b' + 1) j = if c2 (rd L i) (rd L j) = true then some [(i : Int), (j : Int)] else fnd (a2 L i) b' (j + 1) := by
        by_cases c : c2 (rd L (i : Int)) (rd L (j : Int)) = true
        · simp only [fnd, a2, if_pos c]
        · simp only [fnd, a2, if_neg c]
      refine l12_try (s := 2) (r := [(i : Int), (j : Int)]) hL rfl (by omega) hr hnx (fun h => ?_) (fun h => ?_)
      · rw [eo] at h
        rw [ef, if_pos (show c2 (rd L (i : Int)) (rd L (j : Int)) = true by simpa using h)]; rfl
      · rw [eo] at h
        rw [ef, if_neg (show ¬ c2 (rd L (i : Int)) (rd L (j : Int)) = true by simpa using h)]
        by_cases c1 : (j : Int) + 1 < L.length
        · simp only [if_pos c1]
          exact ihb b' (by omega) (j + 1) (by omega) (by omega) (by omega)
        · simp only [if_neg c1]
          obtain rfl : b' = 0 := by omega
          simp only [fnd, oe]
          by_cases c0 : (i : Int) + 2 < L.length
          · simp only [if_pos c0]
            have := iha (a - 1) (by omega) (i + 1) (by omega) (L.length - (i + 2)) (i + 2) rfl (by omega) (by omega)
            rw [show L.length - (i + 1) = (L.length - (i + 2)) + 1 by omega]
            simp only [fnd]
            have eb : b2_1 L (i + 1) = fnd (a2 L (i + 1)) (L.length - (i + 2)) (i + 2) := rfl
            rw [eb]
            cases hf : fnd (a2 L (i + 1)) (L.length - (i + 2)) (i + 2) with
            | some r => rw [hf] at this; exact this
            | none => rw [hf] at this; exact this
          · simp only [if_neg c0]
            have : fnd (b2_1 L) (L.length - (i + 1)) (i + 1) = none := by
              by_cases c : L.length - (i + 1) = 0
              · rw [c]; rfl
              · rw [show L.length - (i + 1) = 0 + 1 by omega]
                simp only [fnd, b2_1, show L.length - (i + 1 + 1) = 0 by omega]
            rw [this]
            exact l12_end
end Go.Proofs.Ytlkcpldohlemcaa.Q
