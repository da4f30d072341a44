/- Blame: both programs say the same. -/
import Derived.Test.YtlkcpldohlemcaaP13
namespace Go.Proofs.Ytlkcpldohlemcaa.Q
open Go Go.RowKit Go.Proofs Go.Proofs.Ytlkcpldohlemcaa.Ev Go.Proofs.Ytlkcpldohlemcaa.G
set_option linter.unusedSimpArgs false
set_option linter.unusedVariables false

theorem l8_ok {L : List S4} {s : Nat} (hs : s ≤ 4) : ∀ (d i : Nat), s - i = d → i ≤ s → Lv (fun q n => spec_Blame.l8 q n L (s : Int) (i : Int) ((List.range i).map fun (x : Nat) => (x : Int))) ((L, (s : Int), (), ()), ((List.range s).map fun (x : Nat) => (x : Int)), ()) := by
  intro d
  induction d with
  | zero =>
    intro i hd hi
    obtain rfl : i = s := by omega
    refine Lv.step (g := fun q n => spec_Blame.s8 q (spec_Blame.l8 q n) L (i : Int) (i : Int) ((List.range i).map fun (x : Nat) => (x : Int))) ?_ (fun _ _ => rfl)
    simp only [spec_Blame.s8, decide_eq_true_eq, if_neg (show ¬ (i : Int) < (i : Int) by omega)]
    exact .now fun _ _ => rfl
  | succ d ih =>
    intro i hd hi
    have w : W ((i : Int) + 1) = ((i + 1 : Nat) : Int) := by rw [W_small (by omega) (by omega)]; omega
    refine Lv.step (g := fun q n => spec_Blame.s8 q (spec_Blame.l8 q n) L (s : Int) (i : Int) ((List.range i).map fun (x : Nat) => (x : Int))) ?_ (fun _ _ => rfl)
    simp only [spec_Blame.s8, decide_eq_true_eq, if_pos (show (i : Int) < (s : Int) by omega), w]
    simp only [if_pos (lt47_ok (show ((List.range i).map fun (x : Nat) => (x : Int)).length + [(i : Int)].length < 2199023255552 by simp only [List.length_map, List.length_range, List.length_cons, List.length_nil]; omega))]
    have := ih (i + 1) (by omega) (by omega)
    rw [List.range_succ, List.map_append] at this
    exact this
def X12 : List Int → spec_Blame.B12 := fun r => .inl (((), ()), (r, ()))
theorem size2 {L : List S4} (hL : ∀ p ∈ L, okp p = true) (hn : L.length ≤ 24) : Lv (fun q m => spec_Blame.l12 q m L 2 (decide ((2 : Int) ≤ (L.length : Int))) [0, 1]) (pick (p2 L) (fun r => .inl (((), ()), (r, ()))) (.inr ((L, 2, ()), ()))) := by
  by_cases h : 2 ≤ L.length
  · rw [show decide ((2 : Int) ≤ (L.length : Int)) = true from decide_eq_true (by omega)]
    have := sp2 hL hn (L.length - 0) 0 rfl (L.length - 1) 1 rfl (by omega) (by omega)
    have e : p2 L = oe (fnd (a2 L 0) (L.length - 1) 1) (fnd (b2_1 L) (L.length - (0 + 1)) (0 + 1)) := by
      unfold p2
      have : L.length = (L.length - 1) + 1 := by omega
      rw [show fnd (b2_1 L) L.length 0 = fnd (b2_1 L) ((L.length - 1) + 1) 0 from by rw [← this], fnd_oe]; rfl
    rw [e]; exact this
  · rw [show decide ((2 : Int) ≤ (L.length : Int)) = false from decide_eq_false (by omega)]
    have : p2 L = none := fnd_nil fun z h1 h2 => by unfold b2_1; exact fnd_nil fun y h3 h4 => by omega
    rw [this]; exact l12_end
theorem size3 {L : List S4} (hL : ∀ p ∈ L, okp p = true) (hn : L.length ≤ 24) (hp : ∀ i j : Nat, i < j → j < L.length → c2 (rd L i) (rd L j) = false) : Lv (fun q m => spec_Blame.l12 q m L 3 (decide ((3 : Int) ≤ (L.length : Int))) [0, 1, 2]) (pick (p3 L) (fun r => .inl (((), ()), (r, ()))) (.inr ((L, 3, ()), ()))) := by
  by_cases h : 3 ≤ L.length
  · rw [show decide ((3 : Int) ≤ (L.length : Int)) = true from decide_eq_true (by omega)]
    have := sp3 hL hn hp (L.length - 0) 0 rfl (L.length - 1) 1 rfl (L.length - 2) 2 rfl (by omega) (by omega) (by omega)
    have e : p3 L = oe (fnd (a3 L 0 1) (L.length - 2) 2) (oe (fnd (b3_2 L 0) (L.length - (1 + 1)) (1 + 1)) (fnd (b3_1 L) (L.length - (0 + 1)) (0 + 1))) := by
      unfold p3
      have e1 : fnd (b3_1 L) L.length 0 = oe (b3_1 L 0) (fnd (b3_1 L) (L.length - 1) 1) := by rw [← fnd_oe]; congr 1; omega
      have e2 : b3_1 L 0 = oe (b3_2 L 0 1) (fnd (b3_2 L 0) (L.length - 2) 2) := by unfold b3_1; rw [← fnd_oe]; congr 1; omega
      rw [e1, e2, oe_assoc]; rfl
    rw [e]; exact this
  · rw [show decide ((3 : Int) ≤ (L.length : Int)) = false from decide_eq_false (by omega)]
    have : p3 L = none := fnd_nil fun z h1 h2 => n3_1 (by omega)
    rw [this]; exact l12_end
theorem size4 {L : List S4} (hL : ∀ p ∈ L, okp p = true) (hn : L.length ≤ 24) (hp : ∀ i j : Nat, i < j → j < L.length → c2 (rd L i) (rd L j) = false) (ht : ∀ i j k : Nat, i < j → j < k → k < L.length → c3 (rd L i) (rd L j) (rd L k) = false) : Lv (fun q m => spec_Blame.l12 q m L 4 (decide ((4 : Int) ≤ (L.length : Int))) [0, 1, 2, 3]) (pick (p4 L) (fun r => .inl (((), ()), (r, ()))) (.inr ((L, 4, ()), ()))) := by
  by_cases h : 4 ≤ L.length
  · rw [show decide ((4 : Int) ≤ (L.length : Int)) = true from decide_eq_true (by omega)]
    have := sp4 hL hn hp ht (L.length - 0) 0 rfl (L.length - 1) 1 rfl (L.length - 2) 2 rfl (L.length - 3) 3 rfl (by omega) (by omega) (by omega) (by omega)
    have e : p4 L = oe (fnd (a4 L 0 1 2) (L.length - 3) 3) (oe (fnd (b4_3 L 0 1) (L.length - (2 + 1)) (2 + 1)) (oe (fnd (b4_2 L 0) (L.length - (1 + 1)) (1 + 1)) (fnd (b4_1 L) (L.length - (0 + 1)) (0 + 1)))) := by
      unfold p4
      have e1 : fnd (b4_1 L) L.length 0 = oe (b4_1 L 0) (fnd (b4_1 L) (L.length - 1) 1) := by rw [← fnd_oe]; congr 1; omega
      have e2 : b4_1 L 0 = oe (b4_2 L 0 1) (fnd (b4_2 L 0) (L.length - 2) 2) := by unfold b4_1; rw [← fnd_oe]; congr 1; omega
      have e3 : b4_2 L 0 1 = oe (b4_3 L 0 1 2) (fnd (b4_3 L 0 1) (L.length - 3) 3) := by unfold b4_2; rw [← fnd_oe]; congr 1; omega
      rw [e1, e2, e3, oe_assoc, oe_assoc]; rfl
    rw [e]; exact this
  · rw [show decide ((4 : Int) ≤ (L.length : Int)) = false from decide_eq_false (by omega)]
    have : p4 L = none := fnd_nil fun z h1 h2 => n4_1 (by omega)
    rw [this]; exact l12_end
theorem p2_none {L : List S4} (h : p2 L = none) : ∀ i j : Nat, i < j → j < L.length → c2 (rd L i) (rd L j) = false := fun i j hij hj => by
  have h1 := fnd_none h i (by omega) (by omega)
  have h2 := fnd_none h1 j (by omega) (by omega)
  unfold a2 at h2
  cases hc : c2 (rd L (i : Int)) (rd L (j : Int)) with
  | false => rfl
  | true => rw [if_pos hc] at h2; cases h2
theorem p3_none {L : List S4} (h : p3 L = none) : ∀ i j k : Nat, i < j → j < k → k < L.length → c3 (rd L i) (rd L j) (rd L k) = false := fun i j k hij hjk hk => by
  have h1 := fnd_none h i (by omega) (by omega)
  have h2 := fnd_none h1 j (by omega) (by omega)
  have h3 := fnd_none h2 k (by omega) (by omega)
  unfold a3 at h3
  cases hc : c3 (rd L (i : Int)) (rd L (j : Int)) (rd L (k : Int)) with
  | false => rfl
  | true => rw [if_pos hc] at h3; cases h3
end Go.Proofs.Ytlkcpldohlemcaa.Q
