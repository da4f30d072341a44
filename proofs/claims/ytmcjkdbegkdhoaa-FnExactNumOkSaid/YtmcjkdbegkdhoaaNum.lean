/- Long numbers that are right, by both programs; lists of numbers copied and compared; the law. -/
import Derived.Test.YtmcjkdbegkdhoaaPrint0
import Derived.Test.YtmcjkdbegkdhoaaPrint20
import Derived.Test.YtmcjkdbegkdhoaaBase
import Derived.Test.YtmcjkdbegkdhoaaArith
namespace Go.Proofs.Ytmcjkdbegkdhoaa.Pure
open Go.RowKit Go.Proofs.Ytmcjkdbegkdhoaa.Print Go.Proofs.YtmcjkdbegkdhoaaW.PrintWords Go.Proofs.YtmcjkdbegkdhoaaW.PrintLast Go.Proofs.YtmcjkdbegkdhoaaW.PrintMore
set_option linter.unusedSimpArgs false
set_option linter.unusedVariables false

theorem szIntS_f {l : List Int} {n : Int} (hl : l.length ≤ 9223372036854775807) (h0 : 0 ≤ n) (h1 : n ≤ 1048576) : laws_szIntS.f l n = some (if (l.length : Int) ≤ n then n - l.length else -1) := by
  unfold laws_szIntS.f
  rw [wrap_id (by omega) (by omega)]
  by_cases h : (l.length : Int) ≤ n
  · rw [if_neg (by omega), if_pos h]
  · rw [if_pos (by omega), if_neg h]
theorem rd_take_succ {l : List Int} {j : Nat} (h : j < l.length) : l.take (j + 1) = l.take j ++ [rd l j] := by
  rw [List.take_succ_eq_append_getElem h]; simp [rd, List.getD_eq_getElem?_getD, h]
theorem set_take {α : Type} (v : α) : ∀ (acc : List α) (j : Nat), j < acc.length → (acc.set j v).take (j + 1) = acc.take j ++ [v]
  | [], j, h => by simp at h
  | x :: xs, 0, _ => by simp
  | x :: xs, j + 1, h => by
    rw [List.set_cons_succ, List.take_succ_cons, set_take v xs j (by simpa using h), List.take_succ_cons, List.cons_append]
theorem toIntS_l0 (l : List Int) (hl : l.length ≤ 1048576) : ∀ (d j k : Nat) (acc : List Int), l.length - j = d → j ≤ l.length → acc.length = l.length → acc.take j = l.take j → d < k → laws_toIntS.l0 k l acc (j : Int) = some l := by
  intro d
  induction d with
  | zero =>
    intro j k acc hd hj ha ht hk
    obtain ⟨k, rfl⟩ : ∃ m, k = m + 1 := ⟨k - 1, by omega⟩
    unfold laws_toIntS.l0
    rw [if_neg (by omega)]
    have e : j = l.length := by omega
    subst e
    rw [List.take_length, ← ha, List.take_length] at ht
    rw [ht]
  | succ d ih =>
    intro j k acc hd hj ha ht hk
    obtain ⟨k, rfl⟩ : ∃ m, k = m + 1 := ⟨k - 1, by omega⟩
    unfold laws_toIntS.l0
    rw [if_pos (by omega), if_pos (by omega), if_pos (by omega), wrap_id (by omega) (by omega)]
    rw [show ((j : Int) + 1) = ((j + 1 : Nat) : Int) from by omega]
    refine ih (j + 1) k _ (by omega) (by omega) (by simpa using ha) ?_ (by omega)
    rw [rd_take_succ (l := l) (by omega), ← ht, show (j : Int).toNat = j from by omega]
    exact set_take _ _ _ (by omega)
theorem toIntS_ev {l : List Int} (hl : l.length ≤ 1048576) : Ev (fun k => laws_toIntS.f k l) l := by
  refine ⟨l.length + 1, fun k hk => ?_⟩
  simp only [laws_toIntS.f]
  rw [if_pos (by omega), if_pos (by omega)]
  exact toIntS_l0 l hl l.length 0 k _ (by omega) (by omega) (by simp) (by simp) (by omega)
theorem eqIntS_l0 (l : List Int) (hl : l.length ≤ 1048576) : ∀ (d j k : Nat), l.length - j = d → j ≤ l.length → d < k → laws_eqIntS.l0 k l l (j : Int) = some true := by
  intro d
  induction d with
  | zero =>
    intro j k hd hj hk
    obtain ⟨k, rfl⟩ : ∃ m, k = m + 1 := ⟨k - 1, by omega⟩
    unfold laws_eqIntS.l0
    rw [if_neg (by omega)]
  | succ d ih =>
    intro j k hd hj hk
    obtain ⟨k, rfl⟩ : ∃ m, k = m + 1 := ⟨k - 1, by omega⟩
    unfold laws_eqIntS.l0
    rw [if_pos (by omega), if_pos (by omega), if_pos (by omega), if_pos rfl, wrap_id (by omega) (by omega)]
    rw [show ((j : Int) + 1) = ((j + 1 : Nat) : Int) from by omega]
    exact ih (j + 1) k (by omega) (by omega) (by omega)
theorem eqIntS_self {l : List Int} (hl : l.length ≤ 1048576) : Ev (fun k => laws_eqIntS.f k l l) true := by
  refine ⟨l.length + 1, fun k hk => ?_⟩
  simp only [laws_eqIntS.f, if_true]
  exact eqIntS_l0 l hl l.length 0 k (by omega) (by omega) (by omega)
/-- the end of both: the highest digit -/
def numEnd (n : Bool) (l : List Int) : Bool := if l.length = 0 then !n else decide (l.length ≤ 120) && (rd l (l.length - 1 : Int) != 0)
def digOk (x : Int) : Prop := 0 ≤ x ∧ x ≤ 9999
def numOk (n : Bool) (l : List Int) : Prop := (∀ x ∈ l, digOk x) ∧ numEnd n l = true
theorem impl_NumOk_l0 (n : Bool) (l : List Int) (hl : l.length ≤ 1048576) : ∀ (d j k : Nat), l.length - j = d → j ≤ l.length → d < k →
    ∃ b, impl_NumOk.l0 k l (l.length : Int) (j : Int) n l = some b ∧ (b = true ↔ (∀ i : Nat, j ≤ i → i < l.length → digOk (rd l i)) ∧ numEnd n l = true) := by
  intro d
  induction d with
  | zero =>
    intro j k hd hj hk
    obtain ⟨k, rfl⟩ : ∃ m, k = m + 1 := ⟨k - 1, by omega⟩
    refine ⟨numEnd n l, ?_, ?_⟩
    · unfold impl_NumOk.l0
      rw [if_neg (by omega)]
      unfold numEnd
      by_cases z : l.length = 0
      · rw [if_pos (by omega), if_pos z]
      · rw [if_neg (by omega), if_neg z]
        by_cases y : l.length ≤ 120
        · rw [if_pos (by omega), wrap_id (by omega) (by omega), if_pos (by omega), if_pos (by omega)]; simp [y]
        · rw [if_neg (by omega)]; simp [y]
    · constructor
      · intro h; exact ⟨fun i h1 h2 => by omega, h⟩
      · intro h; exact h.2
  | succ d ih =>
    intro j k hd hj hk
    obtain ⟨k, rfl⟩ : ∃ m, k = m + 1 := ⟨k - 1, by omega⟩
    unfold impl_NumOk.l0
    rw [if_pos (by omega), if_pos (by omega), if_pos (by omega), inRange_f, Option.bind_some, wrap_id (by omega) (by omega)]
    rw [show ((j : Int) + 1) = ((j + 1 : Nat) : Int) from by omega]
    by_cases hdg : 0 ≤ rd l (j : Int) ∧ rd l (j : Int) ≤ 9999
    · rw [if_pos (decide_eq_true hdg)]
      obtain ⟨b, hb, hiff⟩ := ih (j + 1) k (by omega) (by omega) (by omega)
      refine ⟨b, hb, hiff.trans ⟨fun h => ⟨fun i h1 h2 => ?_, h.2⟩, fun h => ⟨fun i h1 h2 => h.1 i (by omega) h2, h.2⟩⟩⟩
      by_cases e : i = j
      · subst e; exact hdg
      · exact h.1 i (by omega) h2
    · rw [decide_eq_false hdg]
      refine ⟨false, by simp, ⟨fun h => absurd h (by simp), fun h => absurd (h.1 j (Nat.le_refl _) (by omega)) hdg⟩⟩
theorem spec_NumOk_l0 (n : Bool) (l : List Int) (hl : l.length ≤ 1048576) : ∀ (d j k : Nat), l.length - j = d → j ≤ l.length → 2 * d + 1 < k →
    ∃ b, spec_NumOk.l0 k (l.length : Int) (j : Int) n l = some b ∧ (b = true ↔ (∀ i : Nat, j ≤ i → i < l.length → i ≤ 120 → digOk (rd l i)) ∧ numEnd n l = true) := by
  have fin : ∀ (j k : Nat), ∃ b, spec_NumOk.j1 (k + 1) (l.length : Int) (j : Int) false n l = some b ∧ b = numEnd n l := by
    intro j k
    refine ⟨_, ?_, rfl⟩
    unfold spec_NumOk.j1 numEnd
    simp only [Bool.false_eq_true, if_false]
    by_cases z : l.length = 0
    · rw [if_pos (by omega), if_pos (by omega), if_pos z]
      cases n
      · simp
      · simp [z]
    · rw [if_neg z]
      by_cases y : l.length ≤ 120
      · rw [if_pos (by omega), if_neg (by omega), if_pos (by omega), wrap_id (by omega) (by omega), if_pos (by omega), if_pos (by omega)]; simp [y]
      · rw [if_neg (by omega)]; simp [y]
  intro d
  induction d with
  | zero =>
    intro j k hd hj hk
    obtain ⟨k, rfl⟩ : ∃ m, k = m + 2 := ⟨k - 2, by omega⟩
    obtain ⟨b, h1, h2⟩ := fin j k
    refine ⟨b, ?_, ?_⟩
    · rw [spec_NumOk.l0, if_neg (by omega)]; exact h1
    · rw [h2]; exact ⟨fun h => ⟨fun i h1 h2 => by omega, h⟩, fun h => h.2⟩
  | succ d ih =>
    intro j k hd hj hk
    obtain ⟨k, rfl⟩ : ∃ m, k = m + 2 := ⟨k - 2, by omega⟩
    rw [spec_NumOk.l0, if_pos (by omega)]
    by_cases h120 : (j : Int) ≤ 120
    · rw [decide_eq_true h120, spec_NumOk.j1, if_pos rfl, if_pos (by omega), if_pos (by omega), l1In_f, Option.bind_some, wrap_id (by omega) (by omega)]
      rw [show ((j : Int) + 1) = ((j + 1 : Nat) : Int) from by omega]
      by_cases hdg : 0 ≤ rd l (j : Int) ∧ rd l (j : Int) ≤ 9999
      · rw [if_pos (decide_eq_true hdg)]
        obtain ⟨b, hb, hiff⟩ := ih (j + 1) k (by omega) (by omega) (by omega)
        refine ⟨b, hb, hiff.trans ⟨fun h => ⟨fun i h1 h2 h3 => ?_, h.2⟩, fun h => ⟨fun i h1 h2 h3 => h.1 i (by omega) h2 h3, h.2⟩⟩⟩
        by_cases e : i = j
        · subst e; exact hdg
        · exact h.1 i (by omega) h2 h3
      · rw [decide_eq_false hdg]
        refine ⟨false, by simp, ⟨fun h => absurd h (by simp), fun h => absurd (h.1 j (Nat.le_refl _) (by omega) (by omega)) hdg⟩⟩
    · rw [decide_eq_false h120]
      obtain ⟨b, h1, h2⟩ := fin j k
      refine ⟨b, h1, ?_⟩
      rw [h2]; exact ⟨fun h => ⟨fun i h1 h2 h3 => by omega, h⟩, fun h => h.2⟩
theorem numEnd_long {n : Bool} {l : List Int} (h : numEnd n l = true) : l.length ≤ 120 := by
  unfold numEnd at h
  split at h
  · omega
  · simp at h; exact h.1
theorem NumOk_ev (n : Bool) {l : List Int} (hl : l.length ≤ 1048576) : ∃ b, Ev (fun k => spec_NumOk.f k n l) b ∧ Ev (fun k => impl_NumOk.f k n l) b := by
  have H1 := spec_NumOk_l0 n l hl l.length 0
  have H2 := impl_NumOk_l0 n l hl l.length 0
  obtain ⟨b, _, hb⟩ := H2 (l.length + 1) (by omega) (by omega) (by omega)
  refine ⟨b, ⟨2 * l.length + 2, fun k hk => ?_⟩, ⟨l.length + 1, fun k hk => ?_⟩⟩
  · obtain ⟨b2, h1, h2⟩ := H1 k (by omega) (by omega) (by omega)
    have e : b2 = b := by
      rw [Bool.eq_iff_iff, h2, hb]
      constructor
      · intro h; exact ⟨fun i h1 h3 => h.1 i h1 h3 (by have := numEnd_long h.2; omega), h.2⟩
      · intro h; exact ⟨fun i h1 h3 _ => h.1 i h1 h3, h.2⟩
    rw [← e]; exact h1
  · obtain ⟨b2, h1, h2⟩ := H2 k (by omega) (by omega) (by omega)
    have e : b2 = b := by rw [Bool.eq_iff_iff, h2, hb]
    rw [← e]; exact h1
end Go.Proofs.Ytmcjkdbegkdhoaa.Pure
