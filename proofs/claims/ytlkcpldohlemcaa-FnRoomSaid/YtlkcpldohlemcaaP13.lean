/- Blame of spec: rows of three, of four. -/
import Derived.Test.YtlkcpldohlemcaaP12
namespace Go.Proofs.Ytlkcpldohlemcaa.Q
open Go Go.RowKit Go.Proofs Go.Proofs.Ytlkcpldohlemcaa.Ev Go.Proofs.Ytlkcpldohlemcaa.G
set_option linter.unusedSimpArgs false
set_option linter.unusedVariables false

theorem fnd_oe {α : Type} (f : Nat → Option α) (d i : Nat) : fnd f (d + 1) i = oe (f i) (fnd f d (i + 1)) := by
  simp only [fnd]; cases f i <;> rfl
theorem oe_none {α : Type} (x : Option α) : oe none x = x := rfl
theorem oe_assoc {α : Type} (a b c : Option α) : oe (oe a b) c = oe a (oe b c) := by cases a <;> rfl
theorem fnd_nil {α : Type} {f : Nat → Option α} : ∀ {d i : Nat}, (∀ j, i ≤ j → j < i + d → f j = none) → fnd f d i = none
  | 0, i, _ => rfl
  | d + 1, i, h => by simp only [fnd, h i (by omega) (by omega)]; exact fnd_nil fun j h1 h2 => h j (by omega) (by omega)
theorem n3_2 {L : List S4} {i j : Nat} (h : L.length ≤ j + 1) : b3_2 L i j = none := by
  unfold b3_2; rw [show L.length - (j + 1) = 0 by omega]; rfl
theorem n3_1 {L : List S4} {i : Nat} (h : L.length ≤ i + 2) : b3_1 L i = none := by
  unfold b3_1; exact fnd_nil fun z h1 h2 => n3_2 (by omega)
theorem sp3 {L : List S4} (hL : ∀ p ∈ L, okp p = true) (hn : L.length ≤ 24) (hp : ∀ i j : Nat, i < j → j < L.length → c2 (rd L i) (rd L j) = false) : ∀ d0 i : Nat, L.length - i = d0 → ∀ d1 j : Nat, L.length - j = d1 → ∀ d2 k : Nat, L.length - k = d2 → i < j → j < k → k < L.length → Lv (fun q w => spec_Blame.l12 q w L ((3 : Nat) : Int) true [(i : Int), (j : Int), (k : Int)]) (pick (oe (fnd (a3 L i j) d2 k) (oe (fnd (b3_2 L i) (L.length - (j + 1)) (j + 1)) (fnd (b3_1 L) (L.length - (i + 1)) (i + 1)))) (fun r => .inl (((), ()), (r, ()))) (.inr ((L, ((3 : Nat) : Int), ()), ()))) := by
  intro d0
  induction d0 using Nat.strongRecOn with
  | _ d0 ih0 =>
    intro i hd0
    intro d1
    induction d1 using Nat.strongRecOn with
    | _ d1 ih1 =>
      intro j hd1
      intro d2
      induction d2 using Nat.strongRecOn with
      | _ d2 ih2 =>
        intro k hd2
        intro h0 h1 hl
        have hnx := next3 (n := (L.length : Int)) (i := (i : Int)) (j := (j : Int)) (k := (k : Int)) (by omega) (by omega) (by omega) (by omega) (by omega)
        have hr : ∀ t, t < 3 → 0 ≤ ([(i : Int), (j : Int), (k : Int)] : List Int).getD t default ∧ ([(i : Int), (j : Int), (k : Int)] : List Int).getD t default < (L.length : Int) := fun t ht => by
          match t, ht with
          | 0, _ => show 0 ≤ (i : Int) ∧ (i : Int) < L.length; omega
          | 1, _ => show 0 ≤ (j : Int) ∧ (j : Int) < L.length; omega
          | 2, _ => show 0 ≤ (k : Int) ∧ (k : Int) < L.length; omega
        have eo : opn (([(i : Int), (j : Int), (k : Int)] : List Int).map (rd L)) = !c3 (rd L (i : Int)) (rd L (j : Int)) (rd L (k : Int)) := opn3 (hp _ _ (by omega) (by omega)) (hp _ _ (by omega) (by omega)) (hp _ _ (by omega) (by omega))
        obtain ⟨e, rfl⟩ : ∃ e, d2 = e + 1 := ⟨d2 - 1, by omega⟩
        have ef : fnd (a3 L i j) (e + 1) k = if c3 (rd L (i : Int)) (rd L (j : Int)) (rd L (k : Int)) = true then some [(i : Int), (j : Int), (k : Int)] else fnd (a3 L i j) e (k + 1) := by
          by_cases c : c3 (rd L (i : Int)) (rd L (j : Int)) (rd L (k : Int)) = true
          · simp only [fnd, a3, if_pos c]
          · simp only [fnd, a3, if_neg c]
        refine l12_try (s := 3) (r := [(i : Int), (j : Int), (k : Int)]) hL rfl (by omega) hr hnx (fun h => ?_) (fun h => ?_)
        · rw [eo] at h
          rw [ef, if_pos (show c3 (rd L (i : Int)) (rd L (j : Int)) (rd L (k : Int)) = true by simpa using h)]; rfl
        · rw [eo] at h
          rw [ef, if_neg (show ¬ c3 (rd L (i : Int)) (rd L (j : Int)) (rd L (k : Int)) = true by simpa using h)]
          by_cases q2 : (k : Int) + 1 < L.length
          · simp only [if_pos q2]
            exact ih2 e (by omega) (k + 1) (by omega) (by omega) (by omega) (by omega)
          simp only [if_neg q2]
          obtain rfl : e = 0 := by omega
          rw [show fnd (a3 L i j) 0 (k + 1) = none from rfl, oe_none]
          by_cases q1 : (j : Int) + 2 < L.length
          · simp only [if_pos q1]
            have H := ih1 (d1 - 1) (by omega) (j + 1) (by omega) (L.length - (j + 2)) (j + 2) rfl (by omega) (by omega) (by omega)
            have E1 : fnd (b3_2 L i) (L.length - (j + 1)) (j + 1) = oe (fnd (a3 L i (j + 1)) (L.length - ((j + 1) + 1)) ((j + 1) + 1)) (fnd (b3_2 L i) (L.length - ((j + 1) + 1)) ((j + 1) + 1)) := by rw [show L.length - (j + 1) = (L.length - ((j + 1) + 1)) + 1 by omega, fnd_oe]; rfl
            simp only [Nat.add_assoc, Nat.reduceAdd] at E1 H ⊢
            rw [E1]
            simp only [oe_assoc]; exact H
          simp only [if_neg q1]
          rw [show fnd (b3_2 L i) (L.length - (j + 1)) (j + 1) = none from fnd_nil fun z hz1 hz2 => n3_2 (by omega), oe_none]
          by_cases q0 : (i : Int) + 3 < L.length
          · simp only [if_pos q0]
            have H := ih0 (d0 - 1) (by omega) (i + 1) (by omega) (L.length - (i + 2)) (i + 2) rfl (L.length - (i + 3)) (i + 3) rfl (by omega) (by omega) (by omega)
            have E0 : fnd (b3_1 L) (L.length - (i + 1)) (i + 1) = oe (fnd (b3_2 L (i + 1)) (L.length - ((i + 1) + 1)) ((i + 1) + 1)) (fnd (b3_1 L) (L.length - ((i + 1) + 1)) ((i + 1) + 1)) := by rw [show L.length - (i + 1) = (L.length - ((i + 1) + 1)) + 1 by omega, fnd_oe]; rfl
            have E1 : fnd (b3_2 L (i + 1)) (L.length - (i + 2)) (i + 2) = oe (fnd (a3 L (i + 1) (i + 2)) (L.length - ((i + 2) + 1)) ((i + 2) + 1)) (fnd (b3_2 L (i + 1)) (L.length - ((i + 2) + 1)) ((i + 2) + 1)) := by rw [show L.length - (i + 2) = (L.length - ((i + 2) + 1)) + 1 by omega, fnd_oe]; rfl
            simp only [Nat.add_assoc, Nat.reduceAdd] at E0 E1 H ⊢
            rw [E0, E1]
            simp only [oe_assoc]; exact H
          simp only [if_neg q0]
          rw [show fnd (b3_1 L) (L.length - (i + 1)) (i + 1) = none from fnd_nil fun z hz1 hz2 => n3_1 (by omega)]
          exact l12_end
theorem n4_3 {L : List S4} {i j k : Nat} (h : L.length ≤ k + 1) : b4_3 L i j k = none := by
  unfold b4_3; rw [show L.length - (k + 1) = 0 by omega]; rfl
theorem n4_2 {L : List S4} {i j : Nat} (h : L.length ≤ j + 2) : b4_2 L i j = none := by
  unfold b4_2; exact fnd_nil fun z h1 h2 => n4_3 (by omega)
theorem n4_1 {L : List S4} {i : Nat} (h : L.length ≤ i + 3) : b4_1 L i = none := by
  unfold b4_1; exact fnd_nil fun z h1 h2 => n4_2 (by omega)
theorem sp4 {L : List S4} (hL : ∀ p ∈ L, okp p = true) (hn : L.length ≤ 24) (hp : ∀ i j : Nat, i < j → j < L.length → c2 (rd L i) (rd L j) = false) (ht : ∀ i j k : Nat, i < j → j < k → k < L.length → c3 (rd L i) (rd L j) (rd L k) = false) : ∀ d0 i : Nat, L.length - i = d0 → ∀ d1 j : Nat, L.length - j = d1 → ∀ d2 k : Nat, L.length - k = d2 → ∀ d3 m : Nat, L.length - m = d3 → i < j → j < k → k < m → m < L.length → Lv (fun q w => spec_Blame.l12 q w L ((4 : Nat) : Int) true [(i : Int), (j : Int), (k : Int), (m : Int)]) (pick (oe (fnd (a4 L i j k) d3 m) (oe (fnd (b4_3 L i j) (L.length - (k + 1)) (k + 1)) (oe (fnd (b4_2 L i) (L.length - (j + 1)) (j + 1)) (fnd (b4_1 L) (L.length - (i + 1)) (i + 1))))) (fun r => .inl (((), ()), (r, ()))) (.inr ((L, ((4 : Nat) : Int), ()), ()))) := by
  intro d0
  induction d0 using Nat.strongRecOn with
  | _ d0 ih0 =>
    intro i hd0
    intro d1
    induction d1 using Nat.strongRecOn with
    | _ d1 ih1 =>
      intro j hd1
      intro d2
      induction d2 using Nat.strongRecOn with
      | _ d2 ih2 =>
        intro k hd2
        intro d3
        induction d3 using Nat.strongRecOn with
        | _ d3 ih3 =>
          intro m hd3
          intro h0 h1 h2 hl
          have hnx := next4 (n := (L.length : Int)) (i := (i : Int)) (j := (j : Int)) (k := (k : Int)) (l := (m : Int)) (by omega) (by omega) (by omega) (by omega) (by omega) (by omega)
          have hr : ∀ t, t < 4 → 0 ≤ ([(i : Int), (j : Int), (k : Int), (m : Int)] : List Int).getD t default ∧ ([(i : Int), (j : Int), (k : Int), (m : Int)] : List Int).getD t default < (L.length : Int) := fun t ht => by
            match t, ht with
            | 0, _ => show 0 ≤ (i : Int) ∧ (i : Int) < L.length; omega
            | 1, _ => show 0 ≤ (j : Int) ∧ (j : Int) < L.length; omega
            | 2, _ => show 0 ≤ (k : Int) ∧ (k : Int) < L.length; omega
            | 3, _ => show 0 ≤ (m : Int) ∧ (m : Int) < L.length; omega
          have eo : opn (([(i : Int), (j : Int), (k : Int), (m : Int)] : List Int).map (rd L)) = !c4 (rd L (i : Int)) (rd L (j : Int)) (rd L (k : Int)) (rd L (m : Int)) := opn4 (hp _ _ (by omega) (by omega)) (hp _ _ (by omega) (by omega)) (hp _ _ (by omega) (by omega)) (hp _ _ (by omega) (by omega)) (hp _ _ (by omega) (by omega)) (hp _ _ (by omega) (by omega)) (ht _ _ _ (by omega) (by omega) (by omega)) (ht _ _ _ (by omega) (by omega) (by omega)) (ht _ _ _ (by omega) (by omega) (by omega)) (ht _ _ _ (by omega) (by omega) (by omega))
          obtain ⟨e, rfl⟩ : ∃ e, d3 = e + 1 := ⟨d3 - 1, by omega⟩
          have ef : fnd (a4 L i j k) (e + 1) m = if c4 (rd L (i : Int)) (rd L (j : Int)) (rd L (k : Int)) (rd L (m : Int)) = true then some [(i : Int), (j : Int), (k : Int), (m : Int)] else fnd (a4 L i j k) e (m + 1) := by
            by_cases c : c4 (rd L (i : Int)) (rd L (j : Int)) (rd L (k : Int)) (rd L (m : Int)) = true
            · simp only [fnd, a4, if_pos c]
            · simp only [fnd, a4, if_neg c]
          refine l12_try (s := 4) (r := [(i : Int), (j : Int), (k : Int), (m : Int)]) hL rfl (by omega) hr hnx (fun h => ?_) (fun h => ?_)
          · rw [eo] at h
            rw [ef, if_pos (show c4 (rd L (i : Int)) (rd L (j : Int)) (rd L (k : Int)) (rd L (m : Int)) = true by simpa using h)]; rfl
          · rw [eo] at h
            rw [ef, if_neg (show ¬ c4 (rd L (i : Int)) (rd L (j : Int)) (rd L (k : Int)) (rd L (m : Int)) = true by simpa using h)]
            by_cases q3 : (m : Int) + 1 < L.length
            · simp only [if_pos q3]
              exact ih3 e (by omega) (m + 1) (by omega) (by omega) (by omega) (by omega) (by omega)
            simp only [if_neg q3]
            obtain rfl : e = 0 := by omega
            rw [show fnd (a4 L i j k) 0 (m + 1) = none from rfl, oe_none]
            by_cases q2 : (k : Int) + 2 < L.length
            · simp only [if_pos q2]
              have H := ih2 (d2 - 1) (by omega) (k + 1) (by omega) (L.length - (k + 2)) (k + 2) rfl (by omega) (by omega) (by omega) (by omega)
              have E2 : fnd (b4_3 L i j) (L.length - (k + 1)) (k + 1) = oe (fnd (a4 L i j (k + 1)) (L.length - ((k + 1) + 1)) ((k + 1) + 1)) (fnd (b4_3 L i j) (L.length - ((k + 1) + 1)) ((k + 1) + 1)) := by rw [show L.length - (k + 1) = (L.length - ((k + 1) + 1)) + 1 by omega, fnd_oe]; rfl
              simp only [Nat.add_assoc, Nat.reduceAdd] at E2 H ⊢
              rw [E2]
              simp only [oe_assoc]; exact H
            simp only [if_neg q2]
            rw [show fnd (b4_3 L i j) (L.length - (k + 1)) (k + 1) = none from fnd_nil fun z hz1 hz2 => n4_3 (by omega), oe_none]
            by_cases q1 : (j : Int) + 3 < L.length
            · simp only [if_pos q1]
              have H := ih1 (d1 - 1) (by omega) (j + 1) (by omega) (L.length - (j + 2)) (j + 2) rfl (L.length - (j + 3)) (j + 3) rfl (by omega) (by omega) (by omega) (by omega)
              have E1 : fnd (b4_2 L i) (L.length - (j + 1)) (j + 1) = oe (fnd (b4_3 L i (j + 1)) (L.length - ((j + 1) + 1)) ((j + 1) + 1)) (fnd (b4_2 L i) (L.length - ((j + 1) + 1)) ((j + 1) + 1)) := by rw [show L.length - (j + 1) = (L.length - ((j + 1) + 1)) + 1 by omega, fnd_oe]; rfl
              have E2 : fnd (b4_3 L i (j + 1)) (L.length - (j + 2)) (j + 2) = oe (fnd (a4 L i (j + 1) (j + 2)) (L.length - ((j + 2) + 1)) ((j + 2) + 1)) (fnd (b4_3 L i (j + 1)) (L.length - ((j + 2) + 1)) ((j + 2) + 1)) := by rw [show L.length - (j + 2) = (L.length - ((j + 2) + 1)) + 1 by omega, fnd_oe]; rfl
              simp only [Nat.add_assoc, Nat.reduceAdd] at E1 E2 H ⊢
              rw [E1, E2]
              simp only [oe_assoc]; exact H
            simp only [if_neg q1]
            rw [show fnd (b4_2 L i) (L.length - (j + 1)) (j + 1) = none from fnd_nil fun z hz1 hz2 => n4_2 (by omega), oe_none]
            by_cases q0 : (i : Int) + 4 < L.length
            · simp only [if_pos q0]
              have H := ih0 (d0 - 1) (by omega) (i + 1) (by omega) (L.length - (i + 2)) (i + 2) rfl (L.length - (i + 3)) (i + 3) rfl (L.length - (i + 4)) (i + 4) rfl (by omega) (by omega) (by omega) (by omega)
              have E0 : fnd (b4_1 L) (L.length - (i + 1)) (i + 1) = oe (fnd (b4_2 L (i + 1)) (L.length - ((i + 1) + 1)) ((i + 1) + 1)) (fnd (b4_1 L) (L.length - ((i + 1) + 1)) ((i + 1) + 1)) := by rw [show L.length - (i + 1) = (L.length - ((i + 1) + 1)) + 1 by omega, fnd_oe]; rfl
              have E1 : fnd (b4_2 L (i + 1)) (L.length - (i + 2)) (i + 2) = oe (fnd (b4_3 L (i + 1) (i + 2)) (L.length - ((i + 2) + 1)) ((i + 2) + 1)) (fnd (b4_2 L (i + 1)) (L.length - ((i + 2) + 1)) ((i + 2) + 1)) := by rw [show L.length - (i + 2) = (L.length - ((i + 2) + 1)) + 1 by omega, fnd_oe]; rfl
              have E2 : fnd (b4_3 L (i + 1) (i + 2)) (L.length - (i + 3)) (i + 3) = oe (fnd (a4 L (i + 1) (i + 2) (i + 3)) (L.length - ((i + 3) + 1)) ((i + 3) + 1)) (fnd (b4_3 L (i + 1) (i + 2)) (L.length - ((i + 3) + 1)) ((i + 3) + 1)) := by rw [show L.length - (i + 3) = (L.length - ((i + 3) + 1)) + 1 by omega, fnd_oe]; rfl
              simp only [Nat.add_assoc, Nat.reduceAdd] at E0 E1 E2 H ⊢
              rw [E0, E1, E2]
              simp only [oe_assoc]; exact H
            simp only [if_neg q0]
            rw [show fnd (b4_1 L) (L.length - (i + 1)) (i + 1) = none from fnd_nil fun z hz1 hz2 => n4_1 (by omega)]
            exact l12_end
end Go.Proofs.Ytlkcpldohlemcaa.Q
