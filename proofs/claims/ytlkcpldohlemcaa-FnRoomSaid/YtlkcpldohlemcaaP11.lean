/- The first place that will do; Blame of impl. -/
import Derived.Test.YtlkcpldohlemcaaP10
namespace Go.Proofs.Ytlkcpldohlemcaa.Q
open Go Go.RowKit Go.Proofs Go.Proofs.Ytlkcpldohlemcaa.Ev Go.Proofs.Ytlkcpldohlemcaa.G
set_option linter.unusedSimpArgs false
set_option linter.unusedVariables false

/-- the first of 'f i', 'f (i + 1)', .. that is some; d of them. -/
def fnd {α : Type} (f : Nat → Option α) : Nat → Nat → Option α
  | 0, _ => none
  | d + 1, i => match f i with | some a => some a | none => fnd f d (i + 1)
def pick {α β : Type} (o : Option α) (X : α → β) (Y : β) : β := match o with | some r => X r | none => Y
theorem fnd_loop {β α : Type} {l : Nat → Nat → Int → Option β} {f : Nat → Option α} {X : α → β} {Y : β} {n : Nat} (hend : ∀ i : Nat, n ≤ i → Lv (fun k m => l k m (i : Int)) Y)
    (hyes : ∀ i : Nat, i < n → ∀ r, f i = some r → Lv (fun k m => l k m (i : Int)) (X r)) (hno : ∀ i : Nat, i < n → f i = none → ∀ v, Lv (fun k m => l k m ((i + 1 : Nat) : Int)) v → Lv (fun k m => l k m (i : Int)) v) :
    ∀ d i : Nat, n - i = d → Lv (fun k m => l k m (i : Int)) (pick (fnd f d i) X Y) := by
  intro d
  induction d with
  | zero => intro i hd; exact hend i (by omega)
  | succ d ih =>
    intro i hd
    simp only [fnd]
    cases hf : f i with
    | some r => exact hyes i (by omega) r hf
    | none => exact hno i (by omega) hf _ (ih (i + 1) (by omega))
theorem fnd_some {α : Type} {f : Nat → Option α} {r : α} : ∀ {d i : Nat}, fnd f d i = some r → ∃ j, f j = some r
  | 0, i, h => by cases h
  | d + 1, i, h => by
    simp only [fnd] at h
    cases hf : f i with
    | some a => rw [hf] at h; cases h; exact ⟨i, hf⟩
    | none => rw [hf] at h; exact fnd_some h
def a2 (L : List S4) (i j : Nat) : Option (List Int) := if c2 (rd L i) (rd L j) = true then some [(i : Int), (j : Int)] else none
def b2_1 (L : List S4) (i : Nat) : Option (List Int) := fnd (a2 L i) (L.length - (i + 1)) (i + 1)
def p2 (L : List S4) : Option (List Int) := fnd (b2_1 L) L.length 0
theorem blamePairs_l5 {L : List S4} (hL : ∀ p ∈ L, okp p = true) (hl : L.length ≤ 2097152) {i : Nat} (hi : i < L.length) {u v : Int} : ∀ d j : Nat, L.length - j = d → Lv (fun q n => impl_blamePairs.l5 q n L (i : Int) (j : Int) u v) (pick (fnd (a2 L i) d j) (fun r => .inl (((), ()), (r, ()))) (.inr ((L, u, v, ()), ()))) := by
  refine fnd_loop (l := fun q n x => impl_blamePairs.l5 q n L (i : Int) x u v) (f := a2 L i) (n := L.length) (X := (fun r => .inl (((), ()), (r, ())))) (Y := (.inr ((L, u, v, ()), ()))) (fun j hz => ?_) (fun j hz r hr => ?_) (fun j hz hr w hw => ?_)
  · refine Lv.step (g := fun q n => impl_blamePairs.s5 q (impl_blamePairs.l5 q n) L (i : Int) (j : Int) u v) ?_ (fun _ _ => rfl)
    simp only [impl_blamePairs.s5, decide_eq_true_eq, if_neg (show ¬ (j : Int) < (L.length : Int) by omega)]
    exact .now fun _ _ => rfl
  all_goals
    refine Lv.step (g := fun q n => impl_blamePairs.s5 q (impl_blamePairs.l5 q n) L (i : Int) (j : Int) u v) ?_ (fun _ _ => rfl)
    simp only [impl_blamePairs.s5, decide_eq_true_eq, if_pos (show (j : Int) < (L.length : Int) by omega), if_pos (show (i : Int) < (L.length : Int) by omega), if_pos (Int.natCast_nonneg _), wrn hz hl]
    refine Lv.bind (clash2_ev (rdB hL _) (rdB hL _)) ?_
    unfold a2 at hr
  · by_cases c : c2 (rd L (i : Int)) (rd L (j : Int)) = true
    · rw [if_pos c] at hr; cases hr; simp only [c, if_true]; exact .now fun _ _ => rfl
    · rw [if_neg c] at hr; cases hr
  · by_cases c : c2 (rd L (i : Int)) (rd L (j : Int)) = true
    · rw [if_pos c] at hr; cases hr
    · simp only [if_neg c]; exact hw
theorem blamePairs_l2 {L : List S4} (hL : ∀ p ∈ L, okp p = true) (hl : L.length ≤ 2097152) : ∀ d i : Nat, L.length - i = d → Lv (fun q n => impl_blamePairs.l2 q n L (L.length : Int) (i : Int)) (pick (fnd (b2_1 L) d i) (fun r => .inl (((), ()), (r, ()))) (.inr ((), ()))) := by
  refine fnd_loop (l := fun q n x => impl_blamePairs.l2 q n L (L.length : Int) x) (f := b2_1 L) (n := L.length) (X := (fun r => .inl (((), ()), (r, ())))) (Y := (.inr ((), ()))) (fun i hz => ?_) (fun i hz r hr => ?_) (fun i hz hr w hw => ?_)
  · refine Lv.step (g := fun q n => impl_blamePairs.s2 q (impl_blamePairs.l2 q n) L (L.length : Int) (i : Int)) ?_ (fun _ _ => rfl)
    simp only [impl_blamePairs.s2, decide_eq_true_eq, if_neg (show ¬ (i : Int) < (L.length : Int) by omega)]
    exact .now fun _ _ => rfl
  all_goals
    refine Lv.step (g := fun q n => impl_blamePairs.s2 q (impl_blamePairs.l2 q n) L (L.length : Int) (i : Int)) ?_ (fun _ _ => rfl)
    simp only [impl_blamePairs.s2, decide_eq_true_eq, if_pos (show (i : Int) < (L.length : Int) by omega), wrn hz hl]
    refine Lv.bind (blamePairs_l5 hL hl  hz (L.length - (i + 1)) (i + 1) rfl).ev ?_
    rw [show fnd (a2 L i) (L.length - (i + 1)) (i + 1) = _ from hr]
  · exact .now fun _ _ => rfl
  · simp only [pick, wrn hz hl]; exact hw
theorem p2_ne {L : List S4} {r : List Int} (h : p2 L = some r) : r.isEmpty = false := by
  unfold p2 at h
  obtain ⟨i, h⟩ := fnd_some h
  unfold b2_1 at h
  obtain ⟨j, h⟩ := fnd_some h
  unfold a2 at h
  split at h
  · cases h; rfl
  · cases h
theorem blamePairs_ev {L : List S4} (hL : ∀ p ∈ L, okp p = true) (hl : L.length ≤ 2097152) : Ev (fun q => impl_blamePairs.f q L) ((p2 L).getD []) := by
  simp only [impl_blamePairs.f]
  refine (blamePairs_l2 hL hl L.length 0 (by omega)).ev.bind ?_
  have ne := @p2_ne L
  unfold p2 at ne ⊢
  cases hp : fnd (b2_1 L) L.length 0 with
  | none => exact .now fun _ => rfl
  | some r => have := ne hp; simp only [pick, this, Bool.false_eq_true, if_false, Option.getD_some]; exact .now fun _ => rfl
def a3 (L : List S4) (i j k : Nat) : Option (List Int) := if c3 (rd L i) (rd L j) (rd L k) = true then some [(i : Int), (j : Int), (k : Int)] else none
def b3_2 (L : List S4) (i j : Nat) : Option (List Int) := fnd (a3 L i j) (L.length - (j + 1)) (j + 1)
def b3_1 (L : List S4) (i : Nat) : Option (List Int) := fnd (b3_2 L i) (L.length - (i + 1)) (i + 1)
def p3 (L : List S4) : Option (List Int) := fnd (b3_1 L) L.length 0
theorem blameTriples_l8 {L : List S4} (hL : ∀ p ∈ L, okp p = true) (hl : L.length ≤ 2097152) {i : Nat} (hi : i < L.length) {j : Nat} (hj : j < L.length) {u v : Int} : ∀ d k : Nat, L.length - k = d → Lv (fun q n => impl_blameTriples.l8 q n L (i : Int) (j : Int) (k : Int) u v) (pick (fnd (a3 L i j) d k) (fun r => .inl (((), ()), (r, ()))) (.inr ((L, (i : Int), (j : Int), u, v, ()), ()))) := by
  refine fnd_loop (l := fun q n x => impl_blameTriples.l8 q n L (i : Int) (j : Int) x u v) (f := a3 L i j) (n := L.length) (X := (fun r => .inl (((), ()), (r, ())))) (Y := (.inr ((L, (i : Int), (j : Int), u, v, ()), ()))) (fun k hz => ?_) (fun k hz r hr => ?_) (fun k hz hr w hw => ?_)
  · refine Lv.step (g := fun q n => impl_blameTriples.s8 q (impl_blameTriples.l8 q n) L (i : Int) (j : Int) (k : Int) u v) ?_ (fun _ _ => rfl)
    simp only [impl_blameTriples.s8, decide_eq_true_eq, if_neg (show ¬ (k : Int) < (L.length : Int) by omega)]
    exact .now fun _ _ => rfl
  all_goals
    refine Lv.step (g := fun q n => impl_blameTriples.s8 q (impl_blameTriples.l8 q n) L (i : Int) (j : Int) (k : Int) u v) ?_ (fun _ _ => rfl)
    simp only [impl_blameTriples.s8, decide_eq_true_eq, if_pos (show (k : Int) < (L.length : Int) by omega), if_pos (show (i : Int) < (L.length : Int) by omega), if_pos (show (j : Int) < (L.length : Int) by omega), if_pos (Int.natCast_nonneg _), wrn hz hl]
    refine Lv.bind (clash3_ev (rdB hL _) (rdB hL _) (rdB hL _)) ?_
    unfold a3 at hr
  · by_cases c : c3 (rd L (i : Int)) (rd L (j : Int)) (rd L (k : Int)) = true
    · rw [if_pos c] at hr; cases hr; simp only [c, if_true]; exact .now fun _ _ => rfl
    · rw [if_neg c] at hr; cases hr
  · by_cases c : c3 (rd L (i : Int)) (rd L (j : Int)) (rd L (k : Int)) = true
    · rw [if_pos c] at hr; cases hr
    · simp only [if_neg c]; exact hw
theorem blameTriples_l5 {L : List S4} (hL : ∀ p ∈ L, okp p = true) (hl : L.length ≤ 2097152) {i : Nat} (hi : i < L.length) {u v : Int} : ∀ d j : Nat, L.length - j = d → Lv (fun q n => impl_blameTriples.l5 q n L (i : Int) (j : Int) u v) (pick (fnd (b3_2 L i) d j) (fun r => .inl (((), ()), (r, ()))) (.inr ((L, u, v, ()), ()))) := by
  refine fnd_loop (l := fun q n x => impl_blameTriples.l5 q n L (i : Int) x u v) (f := b3_2 L i) (n := L.length) (X := (fun r => .inl (((), ()), (r, ())))) (Y := (.inr ((L, u, v, ()), ()))) (fun j hz => ?_) (fun j hz r hr => ?_) (fun j hz hr w hw => ?_)
  · refine Lv.step (g := fun q n => impl_blameTriples.s5 q (impl_blameTriples.l5 q n) L (i : Int) (j : Int) u v) ?_ (fun _ _ => rfl)
    simp only [impl_blameTriples.s5, decide_eq_true_eq, if_neg (show ¬ (j : Int) < (L.length : Int) by omega)]
    exact .now fun _ _ => rfl
  all_goals
    refine Lv.step (g := fun q n => impl_blameTriples.s5 q (impl_blameTriples.l5 q n) L (i : Int) (j : Int) u v) ?_ (fun _ _ => rfl)
    simp only [impl_blameTriples.s5, decide_eq_true_eq, if_pos (show (j : Int) < (L.length : Int) by omega), wrn hz hl]
    refine Lv.bind (blameTriples_l8 hL hl hi hz (L.length - (j + 1)) (j + 1) rfl).ev ?_
    rw [show fnd (a3 L i j) (L.length - (j + 1)) (j + 1) = _ from hr]
  · exact .now fun _ _ => rfl
  · simp only [pick, wrn hz hl]; exact hw
theorem blameTriples_l2 {L : List S4} (hL : ∀ p ∈ L, okp p = true) (hl : L.length ≤ 2097152) : ∀ d i : Nat, L.length - i = d → Lv (fun q n => impl_blameTriples.l2 q n L (L.length : Int) (i : Int)) (pick (fnd (b3_1 L) d i) (fun r => .inl (((), ()), (r, ()))) (.inr ((), ()))) := by
  refine fnd_loop (l := fun q n x => impl_blameTriples.l2 q n L (L.length : Int) x) (f := b3_1 L) (n := L.length) (X := (fun r => .inl (((), ()), (r, ())))) (Y := (.inr ((), ()))) (fun i hz => ?_) (fun i hz r hr => ?_) (fun i hz hr w hw => ?_)
  · refine Lv.step (g := fun q n => impl_blameTriples.s2 q (impl_blameTriples.l2 q n) L (L.length : Int) (i : Int)) ?_ (fun _ _ => rfl)
    simp only [impl_blameTriples.s2, decide_eq_true_eq, if_neg (show ¬ (i : Int) < (L.length : Int) by omega)]
    exact .now fun _ _ => rfl
  all_goals
    refine Lv.step (g := fun q n => impl_blameTriples.s2 q (impl_blameTriples.l2 q n) L (L.length : Int) (i : Int)) ?_ (fun _ _ => rfl)
    simp only [impl_blameTriples.s2, decide_eq_true_eq, if_pos (show (i : Int) < (L.length : Int) by omega), wrn hz hl]
    refine Lv.bind (blameTriples_l5 hL hl  hz (L.length - (i + 1)) (i + 1) rfl).ev ?_
    rw [show fnd (b3_2 L i) (L.length - (i + 1)) (i + 1) = _ from hr]
  · exact .now fun _ _ => rfl
  · simp only [pick, wrn hz hl]; exact hw
theorem p3_ne {L : List S4} {r : List Int} (h : p3 L = some r) : r.isEmpty = false := by
  unfold p3 at h
  obtain ⟨i, h⟩ := fnd_some h
  unfold b3_1 at h
  obtain ⟨j, h⟩ := fnd_some h
  unfold b3_2 at h
  obtain ⟨k, h⟩ := fnd_some h
  unfold a3 at h
  split at h
  · cases h; rfl
  · cases h
theorem blameTriples_ev {L : List S4} (hL : ∀ p ∈ L, okp p = true) (hl : L.length ≤ 2097152) : Ev (fun q => impl_blameTriples.f q L) ((p3 L).getD []) := by
  simp only [impl_blameTriples.f]
  refine (blameTriples_l2 hL hl L.length 0 (by omega)).ev.bind ?_
  have ne := @p3_ne L
  unfold p3 at ne ⊢
  cases hp : fnd (b3_1 L) L.length 0 with
  | none => exact .now fun _ => rfl
  | some r => have := ne hp; simp only [pick, this, Bool.false_eq_true, if_false, Option.getD_some]; exact .now fun _ => rfl
def a4 (L : List S4) (i j k m : Nat) : Option (List Int) := if c4 (rd L i) (rd L j) (rd L k) (rd L m) = true then some [(i : Int), (j : Int), (k : Int), (m : Int)] else none
def b4_3 (L : List S4) (i j k : Nat) : Option (List Int) := fnd (a4 L i j k) (L.length - (k + 1)) (k + 1)
def b4_2 (L : List S4) (i j : Nat) : Option (List Int) := fnd (b4_3 L i j) (L.length - (j + 1)) (j + 1)
def b4_1 (L : List S4) (i : Nat) : Option (List Int) := fnd (b4_2 L i) (L.length - (i + 1)) (i + 1)
def p4 (L : List S4) : Option (List Int) := fnd (b4_1 L) L.length 0
theorem blameFours_l11 {L : List S4} (hL : ∀ p ∈ L, okp p = true) (hl : L.length ≤ 2097152) {i : Nat} (hi : i < L.length) {j : Nat} (hj : j < L.length) {k : Nat} (hk : k < L.length) {u v : Int} : ∀ d m : Nat, L.length - m = d → Lv (fun q n => impl_blameFours.l11 q n L (i : Int) (j : Int) (k : Int) (m : Int) u v) (pick (fnd (a4 L i j k) d m) (fun r => .inl (((), ()), (r, ()))) (.inr ((L, (i : Int), (j : Int), (k : Int), u, v, ()), ()))) := by
  refine fnd_loop (l := fun q n x => impl_blameFours.l11 q n L (i : Int) (j : Int) (k : Int) x u v) (f := a4 L i j k) (n := L.length) (X := (fun r => .inl (((), ()), (r, ())))) (Y := (.inr ((L, (i : Int), (j : Int), (k : Int), u, v, ()), ()))) (fun m hz => ?_) (fun m hz r hr => ?_) (fun m hz hr w hw => ?_)
  · refine Lv.step (g := fun q n => impl_blameFours.s11 q (impl_blameFours.l11 q n) L (i : Int) (j : Int) (k : Int) (m : Int) u v) ?_ (fun _ _ => rfl)
    simp only [impl_blameFours.s11, decide_eq_true_eq, if_neg (show ¬ (m : Int) < (L.length : Int) by omega)]
    exact .now fun _ _ => rfl
  all_goals
    refine Lv.step (g := fun q n => impl_blameFours.s11 q (impl_blameFours.l11 q n) L (i : Int) (j : Int) (k : Int) (m : Int) u v) ?_ (fun _ _ => rfl)
    simp only [impl_blameFours.s11, decide_eq_true_eq, if_pos (show (m : Int) < (L.length : Int) by omega), if_pos (show (i : Int) < (L.length : Int) by omega), if_pos (show (j : Int) < (L.length : Int) by omega), if_pos (show (k : Int) < (L.length : Int) by omega), if_pos (Int.natCast_nonneg _), wrn hz hl]
    refine Lv.bind (clash4_ev (rdB hL _) (rdB hL _) (rdB hL _) (rdB hL _)) ?_
    unfold a4 at hr
  · by_cases c : c4 (rd L (i : Int)) (rd L (j : Int)) (rd L (k : Int)) (rd L (m : Int)) = true
    · rw [if_pos c] at hr; cases hr; simp only [c, if_true]; exact .now fun _ _ => rfl
    · rw [if_neg c] at hr; cases hr
  · by_cases c : c4 (rd L (i : Int)) (rd L (j : Int)) (rd L (k : Int)) (rd L (m : Int)) = true
    · rw [if_pos c] at hr; cases hr
    · simp only [if_neg c]; exact hw
theorem blameFours_l8 {L : List S4} (hL : ∀ p ∈ L, okp p = true) (hl : L.length ≤ 2097152) {i : Nat} (hi : i < L.length) {j : Nat} (hj : j < L.length) {u v : Int} : ∀ d k : Nat, L.length - k = d → Lv (fun q n => impl_blameFours.l8 q n L (i : Int) (j : Int) (k : Int) u v) (pick (fnd (b4_3 L i j) d k) (fun r => .inl (((), ()), (r, ()))) (.inr ((L, (i : Int), (j : Int), u, v, ()), ()))) := by
  refine fnd_loop (l := fun q n x => impl_blameFours.l8 q n L (i : Int) (j : Int) x u v) (f := b4_3 L i j) (n := L.length) (X := (fun r => .inl (((), ()), (r, ())))) (Y := (.inr ((L, (i : Int), (j : Int), u, v, ()), ()))) (fun k hz => ?_) (fun k hz r hr => ?_) (fun k hz hr w hw => ?_)
  · refine Lv.step (g := fun q n => impl_blameFours.s8 q (impl_blameFours.l8 q n) L (i : Int) (j : Int) (k : Int) u v) ?_ (fun _ _ => rfl)
    simp only [impl_blameFours.s8, decide_eq_true_eq, if_neg (show ¬ (k : Int) < (L.length : Int) by omega)]
    exact .now fun _ _ => rfl
  all_goals
    refine Lv.step (g := fun q n => impl_blameFours.s8 q (impl_blameFours.l8 q n) L (i : Int) (j : Int) (k : Int) u v) ?_ (fun _ _ => rfl)
    simp only [impl_blameFours.s8, decide_eq_true_eq, if_pos (show (k : Int) < (L.length : Int) by omega), wrn hz hl]
    refine Lv.bind (blameFours_l11 hL hl hi hj hz (L.length - (k + 1)) (k + 1) rfl).ev ?_
    rw [show fnd (a4 L i j k) (L.length - (k + 1)) (k + 1) = _ from hr]
  · exact .now fun _ _ => rfl
  · simp only [pick, wrn hz hl]; exact hw
theorem blameFours_l5 {L : List S4} (hL : ∀ p ∈ L, okp p = true) (hl : L.length ≤ 2097152) {i : Nat} (hi : i < L.length) {u v : Int} : ∀ d j : Nat, L.length - j = d → Lv (fun q n => impl_blameFours.l5 q n L (i : Int) (j : Int) u v) (pick (fnd (b4_2 L i) d j) (fun r => .inl (((), ()), (r, ()))) (.inr ((L, u, v, ()), ()))) := by
  refine fnd_loop (l := fun q n x => impl_blameFours.l5 q n L (i : Int) x u v) (f := b4_2 L i) (n := L.length) (X := (fun r => .inl (((), ()), (r, ())))) (Y := (.inr ((L, u, v, ()), ()))) (fun j hz => ?_) (fun j hz r hr => ?_) (fun j hz hr w hw => ?_)
  · refine Lv.step (g := fun q n => impl_blameFours.s5 q (impl_blameFours.l5 q n) L (i : Int) (j : Int) u v) ?_ (fun _ _ => rfl)
    simp only [impl_blameFours.s5, decide_eq_true_eq, if_neg (show ¬ (j : Int) < (L.length : Int) by omega)]
    exact .now fun _ _ => rfl
  all_goals
    refine Lv.step (g := fun q n => impl_blameFours.s5 q (impl_blameFours.l5 q n) L (i : Int) (j : Int) u v) ?_ (fun _ _ => rfl)
    simp only [impl_blameFours.s5, decide_eq_true_eq, if_pos (show (j : Int) < (L.length : Int) by omega), wrn hz hl]
    refine Lv.bind (blameFours_l8 hL hl hi hz (L.length - (j + 1)) (j + 1) rfl).ev ?_
    rw [show fnd (b4_3 L i j) (L.length - (j + 1)) (j + 1) = _ from hr]
  · exact .now fun _ _ => rfl
  · simp only [pick, wrn hz hl]; exact hw
theorem blameFours_l2 {L : List S4} (hL : ∀ p ∈ L, okp p = true) (hl : L.length ≤ 2097152) : ∀ d i : Nat, L.length - i = d → Lv (fun q n => impl_blameFours.l2 q n L (L.length : Int) (i : Int)) (pick (fnd (b4_1 L) d i) (fun r => .inl (((), ()), (r, ()))) (.inr ((), ()))) := by
  refine fnd_loop (l := fun q n x => impl_blameFours.l2 q n L (L.length : Int) x) (f := b4_1 L) (n := L.length) (X := (fun r => .inl (((), ()), (r, ())))) (Y := (.inr ((), ()))) (fun i hz => ?_) (fun i hz r hr => ?_) (fun i hz hr w hw => ?_)
  · refine Lv.step (g := fun q n => impl_blameFours.s2 q (impl_blameFours.l2 q n) L (L.length : Int) (i : Int)) ?_ (fun _ _ => rfl)
    simp only [impl_blameFours.s2, decide_eq_true_eq, if_neg (show ¬ (i : Int) < (L.length : Int) by omega)]
    exact .now fun _ _ => rfl
  all_goals
    refine Lv.step (g := fun q n => impl_blameFours.s2 q (impl_blameFours.l2 q n) L (L.length : Int) (i : Int)) ?_ (fun _ _ => rfl)
    simp only [impl_blameFours.s2, decide_eq_true_eq, if_pos (show (i : Int) < (L.length : Int) by omega), wrn hz hl]
    refine Lv.bind (blameFours_l5 hL hl  hz (L.length - (i + 1)) (i + 1) rfl).ev ?_
    rw [show fnd (b4_2 L i) (L.length - (i + 1)) (i + 1) = _ from hr]
  · exact .now fun _ _ => rfl
  · simp only [pick, wrn hz hl]; exact hw
theorem p4_ne {L : List S4} {r : List Int} (h : p4 L = some r) : r.isEmpty = false := by
  unfold p4 at h
  obtain ⟨i, h⟩ := fnd_some h
  unfold b4_1 at h
  obtain ⟨j, h⟩ := fnd_some h
  unfold b4_2 at h
  obtain ⟨k, h⟩ := fnd_some h
  unfold b4_3 at h
  obtain ⟨m, h⟩ := fnd_some h
  unfold a4 at h
  split at h
  · cases h; rfl
  · cases h
theorem blameFours_ev {L : List S4} (hL : ∀ p ∈ L, okp p = true) (hl : L.length ≤ 2097152) : Ev (fun q => impl_blameFours.f q L) ((p4 L).getD []) := by
  simp only [impl_blameFours.f]
  refine (blameFours_l2 hL hl L.length 0 (by omega)).ev.bind ?_
  have ne := @p4_ne L
  unfold p4 at ne ⊢
  cases hp : fnd (b4_1 L) L.length 0 with
  | none => exact .now fun _ => rfl
  | some r => have := ne hp; simp only [pick, this, Bool.false_eq_true, if_false, Option.getD_some]; exact .now fun _ => rfl
end Go.Proofs.Ytlkcpldohlemcaa.Q
