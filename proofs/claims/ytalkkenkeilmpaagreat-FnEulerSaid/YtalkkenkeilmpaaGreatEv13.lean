/- Code, loops, functions: what the evaluator tells is what the model does. -/
import Derived.Test.YtalkkenkeilmpaaGreatEv12
namespace Go.Proofs.YtalkkenkeilmpaaGreat.Ev
open Go Go.RowKit
set_option linter.unusedVariables false
set_option linter.unusedSimpArgs false

def firstRegion : Code → Nat
  | .region id _ _ => id
  | .seq a _ => firstRegion a
  | .block _ c => firstRegion c
  | .loop c => firstRegion c
  | _ => 0
section
variable {ρ : Type} (cx : Cx ρ)
def evCode : Code → S2 → (Exit → S2 → Option ρ) → Option ρ
  | .skip, st, K => K .normal st
  | .region _ ops draw, st, K => match draw with
    | true => evDraw cx ops ops.toList [] st (K .normal)
    | false => evOps cx ops ops.toList st (K .normal)
  | .seq a b, st, K => evCode a st fun
    | .normal, st => evCode b st K
    | e, st => K e st
  | .cond c a b, st, K => match sv (get st.1) c with
    | .p (.v (.bool t)) => if t = true then evCode a st K else evCode b st K
    | _ => none
  | .block id c, st, K => evCode c st fun
    | .exit j, st => (match Nat.beq j id with | true => K .normal st | false => K (.exit j) st)
    | e, st => K e st
  | .loop c, st, K => cx.loop (firstRegion c) st K
  | .exit id, st, K => K (.exit id) st
  | .ret, st, K => K .ret st
  | _, _, _ => none
end
def okDst (N : Nat) (o : Oper) : Bool := match o.dst with | some d => Nat.ble (d + 1) N | none => true
def dstOk (N : Nat) : Code → Bool
  | .region _ ops _ => ops.toList.all (okDst N)
  | .seq a b => dstOk N a && dstOk N b
  | .cond _ a b => dstOk N a && dstOk N b
  | .block _ c => dstOk N c
  | .loop c => dstOk N c
  | _ => true
/-- from 'st' this code comes to 'e', 'st''. -/
def To (P : Program) (N : Nat) (c : Code) (st : S2) (e : Exit) (st' : S2) : Prop :=
  ∀ (w0 : Base) (a : Act) (w : World) (Q : Exit → Act → World → Prop), R w0 N (get st.1) (getB st.2) a w → (∀ a' w', R w0 N (get st'.1) (getB st'.2) a' w' → Q e a' w') → c.wp P Q a w
section
variable {P : Program} {N : Nat} {ρ : Type} {cx : Cx ρ} {r : ρ}
/-- what a context promises of a code's loops. -/
def LoopsOk (P : Program) (N : Nat) (cx : Cx ρ) : Code → Prop
  | .seq a b => LoopsOk P N cx a ∧ LoopsOk P N cx b
  | .cond _ a b => LoopsOk P N cx a ∧ LoopsOk P N cx b
  | .block _ c => LoopsOk P N cx c
  | .loop c => ∀ st K r, cx.loop (firstRegion c) st K = some r → ∃ e st', K e st' = some r ∧ To P N (.loop c) st e st'
  | _ => True

theorem ops_dst {l : List Oper} (h : l.all (okDst N) = true) : ∀ o ∈ l, ∀ d, o.dst = some d → d < N := fun o ho d hd => by
  have := List.all_eq_true.1 h o ho
  unfold okDst at this
  rw [hd] at this
  exact Nat.le_of_ble_eq_true this

theorem evCode_ok (hP : cx.P = P) (hm : P.follows .mixedOrders = true) (hC : CallsOk P cx) : ∀ (c : Code) (st : S2) (K : Exit → S2 → Option ρ), dstOk N c = true → LoopsOk P N cx c → evCode cx c st K = some r → ∃ e st', K e st' = some r ∧ To P N c st e st'
  | .skip, st, K, _, _, h => ⟨.normal, st, h, fun w0 a w Q hR hQ => wp_skip (hQ a w hR)⟩
  | .region id ops draw, st, K, hd, _, h => by
    simp only [dstOk] at hd
    unfold evCode at h
    cases draw with
    | true =>
      obtain ⟨st', hK, hh⟩ := region_draw_ok hP hm hC (ops_dst hd) h id
      exact ⟨.normal, st', hK, fun w0 a w Q hR hQ => hh w0 a w Q hR hQ⟩
    | false =>
      obtain ⟨st', hK, hh⟩ := evOps_ok hP hC ops.toList st _ (ops_dst hd) h
      exact ⟨.normal, st', hK, fun w0 a w Q hR hQ => wp_region_list (hh w0 a w Q hR hQ)⟩
  | .seq a b, st, K, hd, hL, h => by
    simp only [dstOk, Bool.and_eq_true] at hd
    unfold evCode at h
    obtain ⟨e, st1, hK, hto⟩ := evCode_ok hP hm hC a st _ hd.1 hL.1 h
    cases e with
    | normal =>
      obtain ⟨e', st2, hK', hto'⟩ := evCode_ok hP hm hC b st1 K hd.2 hL.2 hK
      exact ⟨e', st2, hK', fun w0 a w Q hR hQ => wp_seq (hto w0 a w _ hR fun a' w' hR' => hto' w0 a' w' Q hR' hQ)⟩
    | exit id => exact ⟨_, st1, hK, fun w0 a w Q hR hQ => wp_seq (hto w0 a w _ hR fun a' w' hR' => hQ a' w' hR')⟩
    | goto l => exact ⟨_, st1, hK, fun w0 a w Q hR hQ => wp_seq (hto w0 a w _ hR fun a' w' hR' => hQ a' w' hR')⟩
    | ret => exact ⟨_, st1, hK, fun w0 a w Q hR hQ => wp_seq (hto w0 a w _ hR fun a' w' hR' => hQ a' w' hR')⟩
    | panic l => exact ⟨_, st1, hK, fun w0 a w Q hR hQ => wp_seq (hto w0 a w _ hR fun a' w' hR' => hQ a' w' hR')⟩
    | outgrown => exact ⟨_, st1, hK, fun w0 a w Q hR hQ => wp_seq (hto w0 a w _ hR fun a' w' hR' => hQ a' w' hR')⟩
  | .cond c x y, st, K, hd, hL, h => by
    simp only [dstOk, Bool.and_eq_true] at hd
    unfold evCode at h
    split at h
    · rename_i t hc
      have hev : ∀ (w0 : Base) (a : Act) (w : World), R w0 N (get st.1) (getB st.2) a w → a.eval c = .bool t := fun w0 a w ⟨ro, β, hR⟩ => by
        have := hR.sv c
        rw [hc] at this; exact rep_v_inv this
      split at h
      · rename_i ht
        obtain ⟨e, st', hK, hto⟩ := evCode_ok hP hm hC x st K hd.1 hL.1 h
        exact ⟨e, st', hK, fun w0 a w Q hR hQ => wp_cond (hev w0 a w hR) (by rw [if_pos ht]; exact hto w0 a w Q hR hQ)⟩
      · rename_i ht
        obtain ⟨e, st', hK, hto⟩ := evCode_ok hP hm hC y st K hd.2 hL.2 h
        exact ⟨e, st', hK, fun w0 a w Q hR hQ => wp_cond (hev w0 a w hR) (by rw [if_neg ht]; exact hto w0 a w Q hR hQ)⟩
    · cases h
  | .block id c, st, K, hd, hL, h => by
    simp only [dstOk] at hd
    unfold evCode at h
    obtain ⟨e, st1, hK, hto⟩ := evCode_ok hP hm hC c st _ hd hL h
    cases e with
    | exit j =>
      simp only at hK
      split at hK
      · rename_i hj
        rw [beq_iff] at hj; subst hj
        exact ⟨.normal, st1, hK, fun w0 a w Q hR hQ => wp_block (hto w0 a w _ hR fun a' w' hR' => by simp only [Exit.inBlock, if_true]; exact hQ a' w' hR')⟩
      · rename_i hj
        refine ⟨.exit j, st1, hK, fun w0 a w Q hR hQ => wp_block (hto w0 a w _ hR fun a' w' hR' => ?_)⟩
        have : j ≠ id := fun e => by rw [e, beq_iff.2 rfl] at hj; cases hj
        simp only [Exit.inBlock, if_neg this]; exact hQ a' w' hR'
    | normal => exact ⟨_, st1, hK, fun w0 a w Q hR hQ => wp_block (hto w0 a w _ hR fun a' w' hR' => hQ a' w' hR')⟩
    | goto l => exact ⟨_, st1, hK, fun w0 a w Q hR hQ => wp_block (hto w0 a w _ hR fun a' w' hR' => hQ a' w' hR')⟩
    | ret => exact ⟨_, st1, hK, fun w0 a w Q hR hQ => wp_block (hto w0 a w _ hR fun a' w' hR' => hQ a' w' hR')⟩
    | panic l => exact ⟨_, st1, hK, fun w0 a w Q hR hQ => wp_block (hto w0 a w _ hR fun a' w' hR' => hQ a' w' hR')⟩
    | outgrown => exact ⟨_, st1, hK, fun w0 a w Q hR hQ => wp_block (hto w0 a w _ hR fun a' w' hR' => hQ a' w' hR')⟩
  | .loop c, st, K, hd, hL, h => hL st K r h
  | .exit id, st, K, _, _, h => ⟨.exit id, st, h, fun w0 a w Q hR hQ => wp_exit (hQ a w hR)⟩
  | .ret, st, K, _, _, h => ⟨.ret, st, h, fun w0 a w Q hR hQ => wp_ret (hQ a w hR)⟩
  | .rangeFunc .., st, K, _, _, h => by simp [evCode] at h
  | .scope _, st, K, _, _, h => by simp [evCode] at h
  | .label _, st, K, _, _, h => by simp [evCode] at h
  | .goto _, st, K, _, _, h => by simp [evCode] at h
  | .refuse _, st, K, _, _, h => by simp [evCode] at h
end

/-! ### what is still needed of a state -/
def BASE : Nat := 1000000
/-- a row that keeps its name is no row that is named anew. -/
def getN (e : Env) (lb : List Nat) (s : Nat) : SV := match get e s with
  | .osl d => (match memB d lb with | true => .dead | false => .osl d)
  | v => v
theorem getN_osl {e : Env} {lb : List Nat} {s d : Nat} (h : getN e lb s = .osl d) : get e s = .osl d ∧ memB d lb = false := by
  unfold getN at h
  split at h
  · rename_i d' hg
    split at h
    · cases h
    · rename_i hm; cases h; exact ⟨hg, hm⟩
  · rename_i hn; exact absurd h (hn d)
def renV (lb : List Nat) (s : Nat) : SV → SV
  | .osl d => (match memB d lb with | true => .osl d | false => .osl (BASE + s))
  | v => v
def keepE (e : Env) (lb : List Nat) : List Nat → Env
  | [] => []
  | s :: r => (s, renV lb s (get e s)) :: keepE e lb r
/-- a variable that holds a solid of one's own: the solid's box takes its name of the variable's. -/
def renB (id : Nat) : Option Box → Option Box
  | some (.vq _ xs) => match Nat.ble BASE id with | true => none | false => some (.vq (3 * BASE + id) xs)
  | x => x
def qKid (b : Bxs) (id : Nat) : Option Nat := match getB b id with | some (some (.vq kid _)) => some kid | _ => none
def qksB (b : Bxs) : List Nat → Bxs
  | [] => []
  | i :: r => match qKid b i with
    | some kid => (match getB b kid with | some x => (3 * BASE + i, renB BASE x) :: qksB b r | none => qksB b r)
    | none => qksB b r
def qks (b : Bxs) : List Nat → List Nat
  | [] => []
  | i :: r => match qKid b i with | some kid => kid :: qks b r | none => qks b r
def keepB (b : Bxs) : List Nat → Bxs
  | [] => []
  | i :: r => match getB b i with | some x => (i, renB i x) :: keepB b r | none => keepB b r
def rowsB (e : Env) (lb : List Nat) (b : Bxs) : List Nat → Bxs
  | [] => []
  | s :: r => match getN e lb s with
    | .osl d => (match getB b d with | some x => (BASE + s, renB BASE x) :: rowsB e lb b r | none => rowsB e lb b r)
    | _ => rowsB e lb b r
def osls (e : Env) (lb : List Nat) : List Nat → List Nat
  | [] => []
  | s :: r => match getN e lb s with | .osl d => d :: osls e lb r | _ => osls e lb r
def ndB : List Nat → Bool
  | [] => true
  | x :: r => match memB x r with | true => false | false => ndB r
def smallB : List Nat → Bool
  | [] => true
  | x :: r => match Nat.ble (x + 1) BASE with | true => smallB r | false => false
def refOk (lb : List Nat) : SV → Bool
  | .ref id _ => memB id lb
  | .eref id _ _ => memB id lb
  | .rix id _ _ _ => memB id lb
  | .kv _ _ => false
  | .tkv _ _ _ => false
  | _ => true
def refsOk (e : Env) (lb : List Nat) : List Nat → Bool
  | [] => true
  | s :: r => match refOk lb (get e s) with | true => refsOk e lb r | false => false
def dsj : List Nat → List Nat → Bool
  | [], _ => true
  | x :: r, l => match memB x l with | true => false | false => dsj r l
def keepOk (st : S2) (lv lb : List Nat) : Bool := match smallB lb, ndB (osls st.1 lb lv), refsOk st.1 lb lv with
  | true, true, true => match qks st.2 lb with
    | [] => smallB lv
    | l => match ndB l, dsj l lb, dsj l (osls st.1 lb lv), smallB lv with
      | true, true, true, true => true
      | _, _, _, _ => false
  | _, _, _ => false
def keepS (st : S2) (lv lb : List Nat) : S2 := (keepE st.1 lb lv, keepB st.2 lb ++ rowsB st.1 lb st.2 lv ++ qksB st.2 lb)
/-- where a kept block comes from. -/
def src (e : Env) (b : Bxs) (lv lb : List Nat) (id : Nat) : Option Nat := if 3 * BASE ≤ id then (if memB (id - 3 * BASE) lb = true then qKid b (id - 3 * BASE) else none) else if BASE ≤ id then (if memB (id - BASE) lv = true then (match getN e lb (id - BASE) with | .osl d => some d | _ => none) else none) else if memB id lb = true then some id else none

theorem get_keep {e : Env} {lb lv : List Nat} (s : Nat) : get (keepE e lb lv) s = if memB s lv = true then renV lb s (get e s) else .dead := by
  induction lv with
  | nil => rfl
  | cons x lv ih =>
    simp only [keepE, get, memB]
    rcases Bool.eq_false_or_eq_true (Nat.beq x s) with hb | hb
    · have e := beq_iff.1 hb; subst e; simp [hb]
    · simp only [hb]; exact ih
theorem getB_keepB {b : Bxs} {lb : List Nat} (s : Nat) : getB (keepB b lb) s = if memB s lb = true then (getB b s).map (renB s) else none := by
  induction lb with
  | nil => rfl
  | cons x lb ih =>
    simp only [keepB, memB]
    rcases Bool.eq_false_or_eq_true (Nat.beq x s) with hb | hb
    · have e := beq_iff.1 hb; subst e
      simp only [hb, if_true]
      cases hg : getB b x with
      | some y => simp only [getB, hb, Option.map_some]
      | none => rw [ih, hg]; simp
    · simp only [hb]
      cases hg : getB b x with
      | some y => simp only [getB, hb]; exact ih
      | none => exact ih
theorem memB_cons {n x : Nat} {r : List Nat} : memB n (x :: r) = true ↔ x = n ∨ memB n r = true := by
  simp only [memB]
  rcases Bool.eq_false_or_eq_true (Nat.beq x n) with hb | hb
  · simp [hb, beq_iff.1 hb]
  · have : x ≠ n := fun e => by rw [beq_iff.2 e] at hb; cases hb
    simp [hb, this]
theorem getB_rows {e : Env} {lb : List Nat} {b : Bxs} {lv : List Nat} (id : Nat) : getB (rowsB e lb b lv) id = if BASE ≤ id ∧ memB (id - BASE) lv = true then (match getN e lb (id - BASE) with | .osl d => (getB b d).map (renB BASE) | _ => none) else none := by
  induction lv with
  | nil => simp [rowsB, getB, memB]
  | cons x lv ih =>
    have hc : (BASE ≤ id ∧ memB (id - BASE) (x :: lv) = true) ↔ (id = BASE + x ∨ (BASE ≤ id ∧ memB (id - BASE) lv = true)) := by
      rw [memB_cons]
      constructor
      · rintro ⟨h1, h2 | h2⟩
        · exact .inl (by omega)
        · exact .inr ⟨h1, h2⟩
      · rintro (h1 | h1)
        · exact ⟨by omega, .inl (by omega)⟩
        · exact ⟨h1.1, .inr h1.2⟩
    by_cases hx : id = BASE + x
    · rw [if_pos (hc.2 (.inl hx))]
      subst hx
      rw [Nat.add_sub_cancel_left] at ih ⊢
      simp only [rowsB]
      cases hg : getN e lb x with
      | osl d =>
        simp only [hg] at ih ⊢
        cases hd : getB b d with
        | some y => simp only [getB, show Nat.beq (BASE + x) (BASE + x) = true from beq_iff.2 rfl, Option.map_some]
        | none => simp only [ih, hd]; split <;> rfl
      | _ => simp only [hg] at ih ⊢; rw [ih]; split <;> rfl
    · have hne : Nat.beq (BASE + x) id = false := by
        cases hq : Nat.beq (BASE + x) id with
        | false => rfl
        | true => exact absurd (beq_iff.1 hq).symm hx
      have hl : getB (rowsB e lb b (x :: lv)) id = getB (rowsB e lb b lv) id := by
        simp only [rowsB]
        cases hg : getN e lb x with
        | osl d =>
          simp only
          cases hd : getB b d with
          | some y => simp only [getB, hne]
          | none => rfl
        | _ => rfl
      rw [hl, ih]
      by_cases hm : BASE ≤ id ∧ memB (id - BASE) lv = true
      · rw [if_pos hm, if_pos (hc.2 (.inr hm))]
      · rw [if_neg hm, if_neg (fun h => (hc.1 h).elim hx hm)]
theorem getB_qks {b : Bxs} {lb : List Nat} (id : Nat) : getB (qksB b lb) id = if 3 * BASE ≤ id ∧ memB (id - 3 * BASE) lb = true then ((qKid b (id - 3 * BASE)).bind (getB b)).map (renB BASE) else none := by
  induction lb with
  | nil => simp [qksB, getB, memB]
  | cons x lb ih =>
    have hc : (3 * BASE ≤ id ∧ memB (id - 3 * BASE) (x :: lb) = true) ↔ (id = 3 * BASE + x ∨ (3 * BASE ≤ id ∧ memB (id - 3 * BASE) lb = true)) := by
      rw [memB_cons]
      constructor
      · rintro ⟨h1, h2 | h2⟩
        · exact .inl (by omega)
        · exact .inr ⟨h1, h2⟩
      · rintro (h1 | h1)
        · exact ⟨by omega, .inl (by omega)⟩
        · exact ⟨h1.1, .inr h1.2⟩
    by_cases hx : id = 3 * BASE + x
    · rw [if_pos (hc.2 (.inl hx))]
      subst hx
      rw [Nat.add_sub_cancel_left] at ih ⊢
      simp only [qksB]
      cases hg : qKid b x with
      | some d =>
        simp only [hg] at ih ⊢
        cases hd : getB b d with
        | some y => simp only [getB, show Nat.beq (3 * BASE + x) (3 * BASE + x) = true from beq_iff.2 rfl, Option.bind_some, hd, Option.map_some]
        | none => simp only [ih, hd, Option.bind_some, Option.map_none]; split <;> rfl
      | none => simp only [hg] at ih ⊢; rw [ih]; split <;> rfl
    · have hne : Nat.beq (3 * BASE + x) id = false := by
        cases hq : Nat.beq (3 * BASE + x) id with
        | false => rfl
        | true => exact absurd (beq_iff.1 hq).symm hx
      have hl : getB (qksB b (x :: lb)) id = getB (qksB b lb) id := by
        simp only [qksB]
        cases hg : qKid b x with
        | some d =>
          simp only
          cases hd : getB b d with
          | some y => simp only [getB, hne]
          | none => rfl
        | none => rfl
      rw [hl, ih]
      by_cases hm : 3 * BASE ≤ id ∧ memB (id - 3 * BASE) lb = true
      · rw [if_pos hm, if_pos (hc.2 (.inr hm))]
      · rw [if_neg hm, if_neg (fun h => (hc.1 h).elim hx hm)]
theorem renB_ge {id : Nat} (h : BASE ≤ id) : renB id = renB BASE := by
  funext x
  unfold renB
  rw [Nat.ble_eq_true_of_le h, Nat.ble_eq_true_of_le (Nat.le_refl BASE)]
theorem getB_append {a b : Bxs} (id : Nat) : getB (a ++ b) id = match getB a id with | some x => some x | none => getB b id := by
  induction a with
  | nil => rfl
  | cons x a ih =>
    obtain ⟨k, v⟩ := x
    simp only [List.cons_append, getB]
    cases Nat.beq k id <;> simp [ih]
theorem small_ok {lb : List Nat} (h : smallB lb = true) {id : Nat} (hm : memB id lb = true) : id < BASE := by
  induction lb with
  | nil => cases hm
  | cons x lb ih =>
    simp only [smallB] at h
    simp only [memB] at hm
    split at h
    · rename_i hl
      cases hb : Nat.beq x id with
      | true => rw [beq_iff] at hb; subst hb; exact Nat.le_of_ble_eq_true hl
      | false => rw [hb] at hm; exact ih h hm
    · cases h
theorem getB_keep {st : S2} {lv lb : List Nat} (h : smallB lb = true) (hv : smallB lv = true) (id : Nat) : getB (keepS st lv lb).2 id = ((src st.1 st.2 lv lb id).bind (getB st.2)).map (renB id) := by
  unfold keepS src
  simp only [getB_append, getB_keepB, getB_rows, getB_qks]
  by_cases h3 : 3 * BASE ≤ id
  · have hb : BASE ≤ id := by omega
    have hn : ¬ memB id lb = true := fun hm => by have := small_ok h hm; omega
    have hn2 : ¬ (BASE ≤ id ∧ memB (id - BASE) lv = true) := fun hm => by have := small_ok hv hm.2; unfold BASE at *; omega
    simp only [if_neg hn, if_neg hn2, if_pos h3, renB_ge hb]
    by_cases hm : memB (id - 3 * BASE) lb = true
    · simp only [if_pos (show 3 * BASE ≤ id ∧ memB (id - 3 * BASE) lb = true from ⟨h3, hm⟩), if_pos hm]
    · simp only [if_neg (show ¬ (3 * BASE ≤ id ∧ memB (id - 3 * BASE) lb = true) from fun h => hm h.2), if_neg hm]; rfl
  · simp only [if_neg h3, if_neg (show ¬ (3 * BASE ≤ id ∧ memB (id - 3 * BASE) lb = true) from fun h => h3 h.1)]
    by_cases hb : BASE ≤ id
    · have hn : ¬ memB id lb = true := fun hm => by have := small_ok h hm; omega
      simp only [if_neg hn, if_pos hb, renB_ge hb]
      by_cases hm : memB (id - BASE) lv = true
      · simp only [if_pos (show BASE ≤ id ∧ memB (id - BASE) lv = true from ⟨hb, hm⟩), if_pos hm]
        cases getN st.1 lb (id - BASE) with
        | osl d => simp only [Option.bind_some]; cases getB st.2 d <;> rfl
        | _ => rfl
      · simp only [if_neg (show ¬ (BASE ≤ id ∧ memB (id - BASE) lv = true) from fun h => hm h.2), if_neg hm]; rfl
    · simp only [if_neg hb, if_neg (show ¬ (BASE ≤ id ∧ memB (id - BASE) lv = true) from fun h => hb h.1)]
      by_cases hm : memB id lb = true
      · simp only [if_pos hm, Option.bind_some]; cases getB st.2 id <;> rfl
      · simp only [if_neg hm]; rfl
theorem refs_ok {e : Env} {lb : List Nat} {lv : List Nat} (h : refsOk e lb lv = true) {s : Nat} (hs : memB s lv = true) : refOk lb (get e s) = true := by
  induction lv with
  | nil => cases hs
  | cons x lv ih =>
    simp only [refsOk] at h
    simp only [memB] at hs
    split at h
    · rename_i hr
      cases hb : Nat.beq x s with
      | true => rw [beq_iff] at hb; subst hb; exact hr
      | false => rw [hb] at hs; exact ih h hs
    · cases h
theorem osl_mem {e : Env} {lb lv : List Nat} {s d : Nat} (hs : memB s lv = true) (hd : getN e lb s = .osl d) : memB d (osls e lb lv) = true := by
  induction lv with
  | nil => cases hs
  | cons x lv ih =>
    simp only [memB] at hs
    simp only [osls]
    cases hb : Nat.beq x s with
    | true => rw [beq_iff] at hb; subst hb; rw [hd]; simp [memB, beq_iff.2]
    | false =>
      rw [hb] at hs
      have := ih hs
      cases hx : getN e lb x <;> simp only [memB, this]
      cases Nat.beq _ d <;> rfl
theorem osl_inj {e : Env} {lb lv : List Nat} (h : ndB (osls e lb lv) = true) {s s' d : Nat} (hs : memB s lv = true) (hs' : memB s' lv = true) (hd : getN e lb s = .osl d) (hd' : getN e lb s' = .osl d) : s = s' := by
  induction lv with
  | nil => cases hs
  | cons x lv ih =>
    simp only [memB] at hs hs'
    simp only [osls] at h
    cases hb : Nat.beq x s with
    | true =>
      rw [beq_iff] at hb; subst hb
      cases hb' : Nat.beq x s' with
      | true => exact beq_iff.1 hb'
      | false =>
        rw [hb'] at hs'
        rw [hd] at h
        simp only [ndB] at h
        rw [osl_mem hs' hd'] at h; cases h
    | false =>
      rw [hb] at hs
      cases hb' : Nat.beq x s' with
      | true =>
        rw [beq_iff] at hb'; subst hb'
        rw [hd'] at h
        simp only [ndB] at h
        rw [osl_mem hs hd] at h; cases h
      | false =>
        rw [hb'] at hs'
        refine ih ?_ hs hs'
        cases hx : getN e lb x with
        | osl d0 =>
          rw [hx] at h
          simp only [ndB] at h
          split at h
          · cases h
          · exact h
        | _ => rw [hx] at h; exact h
theorem dsj_ok {a b : List Nat} (h : dsj a b = true) {x : Nat} (hx : memB x a = true) : memB x b = false := by
  induction a with
  | nil => cases hx
  | cons y a ih =>
    simp only [dsj] at h
    split at h
    · cases h
    · rename_i hy
      rcases memB_cons.1 hx with rfl | hx
      · exact hy
      · exact ih h hx
theorem qks_mem {b : Bxs} {lb : List Nat} {i kid : Nat} (hi : memB i lb = true) (hk : qKid b i = some kid) : memB kid (qks b lb) = true := by
  induction lb with
  | nil => cases hi
  | cons x lb ih =>
    simp only [qks]
    rcases memB_cons.1 hi with rfl | hi
    · rw [hk]; exact memB_cons.2 (.inl rfl)
    · have := ih hi
      cases qKid b x with
      | some y => exact memB_cons.2 (.inr this)
      | none => exact this
theorem qks_inj {b : Bxs} {lb : List Nat} (h : ndB (qks b lb) = true) {i j kid : Nat} (hi : memB i lb = true) (hj : memB j lb = true) (hki : qKid b i = some kid) (hkj : qKid b j = some kid) : i = j := by
  induction lb with
  | nil => cases hi
  | cons x lb ih =>
    simp only [qks] at h
    rcases memB_cons.1 hi with rfl | hi'
    · rcases memB_cons.1 hj with rfl | hj'
      · rfl
      · rw [hki] at h
        simp only [ndB, qks_mem hj' hkj] at h
        cases h
    · rcases memB_cons.1 hj with rfl | hj'
      · rw [hkj] at h
        simp only [ndB, qks_mem hi' hki] at h
        cases h
      · refine ih ?_ hi' hj'
        cases hx : qKid b x with
        | none => rw [hx] at h; exact h
        | some y =>
          rw [hx] at h
          simp only [ndB] at h
          split at h
          · cases h
          · exact h
theorem src_inj {e : Env} {b : Bxs} {lv lb : List Nat} (h2 : ndB (osls e lb lv) = true) (h3 : refsOk e lb lv = true) (q1 : ndB (qks b lb) = true) (q2 : dsj (qks b lb) lb = true) (q3 : dsj (qks b lb) (osls e lb lv) = true) {id id' d : Nat} (h : src e b lv lb id = some d) (h' : src e b lv lb id' = some d) : id = id' := by
  have cas0 : ∀ id, src e b lv lb id = some d → (3 * BASE ≤ id ∧ memB (id - 3 * BASE) lb = true ∧ qKid b (id - 3 * BASE) = some d) ∨ (BASE ≤ id ∧ memB (id - BASE) lv = true ∧ getN e lb (id - BASE) = .osl d) ∨ (¬ BASE ≤ id ∧ id = d ∧ memB d lb = true) := fun id h => by
    unfold src at h
    split at h
    · rename_i h3
      split at h
      · rename_i hm; exact .inl ⟨h3, hm, h⟩
      · cases h
    refine .inr ?_
    split at h
    · rename_i hb
      split at h
      · rename_i hm
        split at h
        · rename_i d' hg; cases h; exact .inl ⟨hb, hm, hg⟩
        · cases h
      · cases h
    · rename_i hb
      split at h
      · rename_i hm; cases h; exact .inr ⟨hb, rfl, hm⟩
      · cases h
  have cl1 : ∀ i, memB i lb = true → qKid b i = some d → memB d lb = true → False := fun i hi hk hm => by
    rw [dsj_ok q2 (qks_mem hi hk)] at hm; cases hm
  have cl2 : ∀ i s, memB i lb = true → qKid b i = some d → memB s lv = true → getN e lb s = .osl d → False := fun i s hi hk hs hg => by
    have := osl_mem hs hg
    rw [dsj_ok q3 (qks_mem hi hk)] at this; cases this
  rcases cas0 id h with ⟨a1, a2, a3⟩ | ha
  · rcases cas0 id' h' with ⟨b1, b2, b3⟩ | ⟨b1, b2, b3⟩ | ⟨b1, b2, b3⟩
    · have := qks_inj q1 a2 b2 a3 b3; omega
    · exact (cl2 _ _ a2 a3 b2 b3).elim
    · exact (cl1 _ a2 a3 b3).elim
  rcases cas0 id' h' with ⟨b1, b2, b3⟩ | hb'
  · rcases ha with ⟨a1, a2, a3⟩ | ⟨a1, a2, a3⟩
    · exact (cl2 _ _ b2 b3 a2 a3).elim
    · exact (cl1 _ b2 b3 a3).elim
  have cas : ∀ id, src e b lv lb id = some d → ((BASE ≤ id ∧ memB (id - BASE) lv = true ∧ getN e lb (id - BASE) = .osl d) ∨ (¬ BASE ≤ id ∧ id = d ∧ memB d lb = true)) → (BASE ≤ id ∧ memB (id - BASE) lv = true ∧ getN e lb (id - BASE) = .osl d) ∨ (¬ BASE ≤ id ∧ id = d ∧ memB d lb = true) := fun _ _ h => h
  have clash : ∀ s, memB s lv = true → getN e lb s = .osl d → memB d lb = true → False := fun s hs hg hm => by
    rw [(getN_osl hg).2] at hm; cases hm
  rcases cas id h ha with ⟨b1, m1, g1⟩ | ⟨b1, e1, m1⟩ <;> rcases cas id' h' hb' with ⟨b2, m2, g2⟩ | ⟨b2, e2, m2⟩
  · have := osl_inj h2 m1 m2 g1 g2; omega
  · exact (clash _ m1 g1 m2).elim
  · exact (clash _ m2 g2 m1).elim
  · omega

theorem R.keep {N : Nat} {w0 : Base} {st : S2} {a : Act} {w : World} {lv lb : List Nat} (h : R w0 N (get st.1) (getB st.2) a w) (hok : keepOk st lv lb = true) : R w0 N (get (keepS st lv lb).1) (getB (keepS st lv lb).2) a w := by
  obtain ⟨ro, β, h⟩ := h
  unfold keepOk at hok
  split at hok
  · rename_i k1 k2 k3
    obtain ⟨q1, q2, q3, k4⟩ : ndB (qks st.2 lb) = true ∧ dsj (qks st.2 lb) lb = true ∧ dsj (qks st.2 lb) (osls st.1 lb lv) = true ∧ smallB lv = true := by
      split at hok
      · rename_i e; rw [e]; exact ⟨rfl, rfl, rfl, hok⟩
      · split at hok
        · rename_i c1 c2 c3 c4; exact ⟨c1, c2, c3, c4⟩
        · cases hok
    have hsl : ∀ s d, memB s lv = true → getN st.1 lb s = .osl d → src st.1 st.2 lv lb (BASE + s) = some d := fun s d hs hg => by
      have := small_ok k4 hs
      unfold src
      rw [if_neg (by unfold BASE at *; omega), if_pos (by omega), Nat.add_sub_cancel_left, if_pos hs, hg]
    have hsr : ∀ id, memB id lb = true → src st.1 st.2 lv lb id = some id := fun id hm => by
      have := small_ok k1 hm
      unfold src
      rw [if_neg (by omega), if_neg (by omega), if_pos hm]
    have hold : ∀ id x, getB (keepS st lv lb).2 id = some (some x) → ∃ d y, src st.1 st.2 lv lb id = some d ∧ getB st.2 d = some (some y) ∧ renB id (some y) = some x := fun id x hx => by
      rw [getB_keep k1 k4] at hx
      cases hs : src st.1 st.2 lv lb id with
      | none => rw [hs] at hx; cases hx
      | some d =>
        rw [hs, Option.bind_some] at hx
        cases hg : getB st.2 d with
        | none => rw [hg] at hx; cases hx
        | some y =>
          rw [hg, Option.map_some] at hx
          have hx := Option.some.inj hx
          cases y with
          | none => cases hx
          | some y => exact ⟨d, y, rfl, hg, hx⟩
    have hren : ∀ id y x, renB id (some y) = some x → x.kind = y.kind ∧ (∀ (base : Nat) (k : Blk), BoxRep w ro base k y → BoxRep w ro base k x) ∧ (x = y ∧ (∀ kid xs, y ≠ .vq kid xs) ∨ ∃ kid xs, y = .vq kid xs ∧ x = .vq (3 * BASE + id) xs ∧ id < BASE) := fun id y x h => by
      cases y with
      | vq kid xs =>
        unfold renB at h
        simp only at h
        cases hb : Nat.ble BASE id with
        | true => rw [hb] at h; cases h
        | false =>
          rw [hb] at h
          cases h
          refine ⟨rfl, fun _ _ h => h, .inr ⟨kid, xs, rfl, rfl, ?_⟩⟩
          apply Classical.byContradiction
          intro hlt
          rw [Nat.ble_eq_true_of_le (by omega)] at hb; cases hb
      | _ => cases h; exact ⟨rfl, fun _ _ h => h, .inl ⟨rfl, fun _ _ e => by cases e⟩⟩
    refine ⟨ro, fun id => (src st.1 st.2 lv lb id).bind β, ⟨h.below, fun s => ?_, fun id x hx => ?_, fun id id' x x' b k k' h1 h2 e1 e2 o1 o2 => ?_, fun id hid => ?_, h.roUp, h.roLt, fun id k b q hk hb => ?_, h.defers, h.size, fun k hk0 => ⟨(h.fix k hk0).1, fun x hx => ?_⟩, fun id kid xs hx => ?_⟩⟩
    · have h1 := h.slots s
      show RepS w ro _ _ (get (keepE st.1 lb lv) s)
      rw [get_keep]
      split
      · rename_i hm
        have hr := refs_ok k3 hm
        cases hg : get st.1 s with
        | p a => rw [hg] at h1; exact h1
        | tup xs => rw [hg] at h1; exact h1
        | pt xs => rw [hg] at h1; exact h1
        | dead => trivial
        | osl id =>
          rw [hg] at h1; obtain ⟨k, hk, r⟩ := h1
          simp only [renV]
          cases hl : memB id lb with
          | true => exact ⟨k, by simp only [hsr id hl, Option.bind_some]; exact hk, r⟩
          | false =>
            have hgn : getN st.1 lb s = .osl id := by unfold getN; rw [hg]; simp only [hl]
            exact ⟨k, by simp only [hsl s id hm hgn, Option.bind_some]; exact hk, r⟩
        | ref id o => rw [hg] at h1 hr; obtain ⟨k, b, hk, r⟩ := h1; exact ⟨k, b, by simp only [hsr id hr, Option.bind_some]; exact hk, r⟩
        | eref id j c => rw [hg] at h1 hr; obtain ⟨k, b, hk, r⟩ := h1; exact ⟨k, b, by simp only [hsr id hr, Option.bind_some]; exact hk, r⟩
        | rix id o n i => rw [hg] at h1 hr; obtain ⟨k, b, hk, r⟩ := h1; exact ⟨k, b, by simp only [hsr id hr, Option.bind_some]; exact hk, r⟩
        | kv id xs => rw [hg] at hr; cases hr
        | tkv id xs ys => rw [hg] at hr; cases hr
      · trivial
    · obtain ⟨d, y, hs, hy, hr⟩ := hold id x hx
      obtain ⟨k, hk, r1, r2⟩ := h.box d y hy
      obtain ⟨n1, n2, _⟩ := hren id y x hr
      exact ⟨k, by simp only [hs, Option.bind_some]; exact hk, n2 _ _ r1, fun b hb => r2 b (n1 ▸ hb)⟩
    · obtain ⟨d, y, hs, hy, hr⟩ := hold id x h1
      obtain ⟨d', y', hs', hy', hr'⟩ := hold id' x' h2
      simp only [hs, hs', Option.bind_some] at e1 e2
      have := h.inj d d' y y' b k k' hy hy' e1 e2 ((hren id y x hr).1 ▸ o1) ((hren id' y' x' hr').1 ▸ o2)
      subst this
      exact src_inj k2 k3 q1 q2 q3 hs hs'
    · rw [getB_keep k1 k4] at hid
      cases hs : src st.1 st.2 lv lb id with
      | none => simp only [hs, Option.bind_none]
      | some d =>
        rw [hs, Option.bind_some] at hid
        simp only [hs, Option.bind_some]
        cases hg : getB st.2 d with
        | none => exact h.free d hg
        | some y => rw [hg] at hid; cases hid
    · cases hs : src st.1 st.2 lv lb id with
      | none => simp only [hs, Option.bind_none] at hk; cases hk
      | some d => simp only [hs, Option.bind_some] at hk; exact h.βLt d k b q hk hb
    · obtain ⟨d, y, hs, hy, hr⟩ := hold XID x hx
      have hd : d = XID := by
        unfold src at hs
        rw [if_neg (show ¬ 3 * BASE ≤ XID from by unfold BASE XID; omega), if_neg (show ¬ BASE ≤ XID from by unfold BASE XID; omega)] at hs
        split at hs
        · cases hs; rfl
        · cases hs
      simp only [hs, Option.bind_some]
      subst hd
      exact (h.fix k hk0).2 y hy
    · obtain ⟨d, y, hs, hy, hr⟩ := hold id _ hx
      rcases (hren id y _ hr).2.2 with ⟨e, hn⟩ | ⟨kid0, xs0, rfl, e, hlt⟩
      · exact absurd e.symm (hn kid xs)
      · cases e
        obtain ⟨k, k', f1, f2, f3⟩ := h.lnk d kid0 xs hy
        have hm : d = id ∧ memB id lb = true := by
          unfold src at hs
          rw [if_neg (by unfold BASE at *; omega), if_neg (by omega)] at hs
          split at hs
          · rename_i hm; cases hs; exact ⟨rfl, hm⟩
          · cases hs
        obtain ⟨rfl, hm⟩ := hm
        refine ⟨k, k', by simp only [hs, Option.bind_some]; exact f1, ?_, f3⟩
        have hs3 : src st.1 st.2 lv lb (3 * BASE + d) = some kid0 := by
          unfold src
          rw [if_pos (by omega), Nat.add_sub_cancel_left, if_pos hm]
          unfold qKid; rw [hy]
        simp only [hs3, Option.bind_some]
        exact f2
  · cases hok

/-- a slice that is nil becomes a row of one's own without elements. -/
def thaw : List (Nat × TypeId × El) → S2 → S2
  | [], st => st
  | (s, t, e) :: r, st => match get st.1 s with
    | .p (.v (.slice none 0 0)) => (match getB st.2 (2 * BASE + s) with
      | none => thaw r ((s, .osl (2 * BASE + s)) :: st.1, (2 * BASE + s, some (.row t e [])) :: st.2)
      | some _ => thaw r st)
    | _ => thaw r st

theorem R.thaw {N : Nat} {w0 : Base} {a : Act} {w : World} : ∀ (ol : List (Nat × TypeId × El)) (st : S2), R w0 N (get st.1) (getB st.2) a w → R w0 N (get (thaw ol st).1) (getB (thaw ol st).2) a w
  | [], st, h => h
  | (s, t, e) :: r, st, h => by
    unfold Ev.thaw
    split
    · rename_i hg
      split
      · rename_i hb
        refine R.thaw r _ ?_
        obtain ⟨ro, β, h⟩ := h
        have hv : a.tmps.getD s undef = .slice none 0 0 := by have := h.slots s; rw [hg] at this; exact rep_v_inv this
        have h2 := h.grow (d := 2 * BASE + s) (x := .row t e []) (k := { v := .slice none 0 0, own := none, t := t, z := e.z, n := 0 }) (w' := w) (ro' := ro) (row := none) (gs := []) hb (.inr (by unfold XID BASE; omega)) (fun _ _ h => by cases h) ⟨rfl, rfl, rfl, Nat.le_refl _, fun _ _ _ => rfl⟩ (Nat.le_refl _) (fun b h => by cases h) (fun b hb => hb) (fun b hb => .inl hb)
          ⟨rfl, rfl, rfl, rfl, [], ownsW_nil _ _ _ _, fun j c hj => by simp at hj⟩ (fun b hb => by cases owns_own rfl hb) (fun b q hb => by cases owns_own rfl hb)
        have e2 : getB ((2 * BASE + s, some (.row t e [])) :: st.2) = updB (getB st.2) [(2 * BASE + s, some (.row t e []))] := funext fun q => getB_app [(_, _)] st.2 q
        show R w0 N _ (getB ((2 * BASE + s, some (.row t e [])) :: st.2)) a w
        rw [e2]
        refine ⟨ro, _, { h2 with slots := fun q => ?_ }⟩
        simp only [get]
        rcases Bool.eq_false_or_eq_true (Nat.beq s q) with hq | hq
        · have e := beq_iff.1 hq; subst e
          simp only [hq]
          exact ⟨_, by simp [setβ]; rfl, hv⟩
        · simp only [hq]; exact h2.slots q
      · exact R.thaw r st h
    · exact R.thaw r st h

/-- rows of one's own that are written no more. -/
def frost : List Nat → S2 → S2
  | [], st => st
  | s :: r, st => match get st.1 s with
    | .osl d => (match getB st.2 d with
      | some (some (.row _ e l)) => frost r (st.1, (d, some (.fro e l)) :: st.2)
      | _ => frost r st)
    | _ => frost r st
def melt : List Nat → S2 → S2
  | [], st => st
  | s :: r, st => match get st.1 s with
    | .osl d => (match getB st.2 d with
      | some (some (.fro e l)) => melt r ((s, .p (.sl e l)) :: st.1, st.2)
      | _ => melt r st)
    | _ => melt r st

theorem R.frost {N : Nat} {w0 : Base} {a : Act} {w : World} : ∀ (fl : List Nat) (st : S2), R w0 N (get st.1) (getB st.2) a w → R w0 N (get (frost fl st).1) (getB (frost fl st).2) a w
  | [], st, h => h
  | s :: r, st, h => by
    unfold Ev.frost
    split
    · rename_i d hg
      split
      · rename_i t e l hb
        refine R.frost r _ ?_
        obtain ⟨ro, β, h⟩ := h
        have hf : Frz (getB st.2) [(d, some (.fro e l))] := fun id r hm => by
          simp at hm; obtain ⟨rfl, rfl⟩ := hm; exact ⟨_, _, rfl, rfl, hb⟩
        have h2 := h.freeze hf
        have e2 : getB ((d, some (.fro e l)) :: st.2) = updB (getB st.2) [(d, some (.fro e l))] := funext fun q => getB_app [(_, _)] st.2 q
        show R w0 N _ (getB ((d, some (.fro e l)) :: st.2)) a w
        rw [e2]
        exact ⟨_, _, h2⟩
      · exact R.frost r st h
    · exact R.frost r st h
theorem R.melt {N : Nat} {w0 : Base} {a : Act} {w : World} : ∀ (lv : List Nat) (st : S2), R w0 N (get st.1) (getB st.2) a w → R w0 N (get (melt lv st).1) (getB (melt lv st).2) a w
  | [], st, h => h
  | s :: r, st, h => by
    unfold Ev.melt
    split
    · rename_i d hg
      split
      · rename_i e l hb
        refine R.melt r _ ?_
        obtain ⟨ro, β, h⟩ := h
        refine ⟨ro, β, { h with slots := fun q => ?_ }⟩
        simp only [get]
        rcases Bool.eq_false_or_eq_true (Nat.beq s q) with hq | hq
        · have e := beq_iff.1 hq; subst e
          simp only [hq]
          have hs := h.slots s
          rw [hg] at hs
          obtain ⟨k, hk, hv⟩ := hs
          obtain ⟨k', hk', hrep, _⟩ := h.box d _ hb
          rw [hk] at hk'; cases hk'
          show Rep w _ _ _
          rw [hv]
          exact hrep
        · simp only [hq]; exact h.slots q
      · exact R.melt r st h
    · exact R.melt r st h

/-- a variable with a solid without kids: it is one's own. -/
def prom : List Nat → S2 → S2
  | [], st => st
  | id :: r, st => match getB st.2 id with
    | some (some (.vr xs)) => (match solA xs, getB st.2 (4 * BASE + id), Nat.beq id XID with
      | some (b, p), none, false => prom r (st.1, (id, some (.vq (4 * BASE + id) [.bool b, .int .i64 p.a, .int .i64 p.b, .int .i64 p.c, .int .i64 p.d])) :: (4 * BASE + id, some (.kids [])) :: st.2)
      | _, _, _ => prom r st)
    | _ => prom r st
theorem R.prom {N : Nat} {w0 : Base} {a : Act} {w : World} : ∀ (ql : List Nat) (st : S2), R w0 N (get st.1) (getB st.2) a w → R w0 N (get (prom ql st).1) (getB (prom ql st).2) a w
  | [], st, h => h
  | id :: r, st, h => by
    unfold Ev.prom
    split
    · rename_i xs hb
      split
      · rename_i b p hs hn hX
        refine R.prom r _ ?_
        obtain ⟨ro, β, h⟩ := h
        obtain ⟨k, hk, hrep, _⟩ := h.box id _ hb
        obtain ⟨b0, c, tt, hown, hheap, hsz, hcells⟩ := hrep
        obtain ⟨y, e, hy⟩ := solA_eq hs
        subst e
        have hsz : c.size = 6 := hsz
        have g : ∀ i : Nat, (hi : i < 6) → ∀ x, ([AV.v (.bool b), .v (.int .i64 p.a), .v (.int .i64 p.b), .v (.int .i64 p.c), .v (.int .i64 p.d), y])[i]? = some (.v x) → c[i]? = some x := fun i hi x hx => by
          obtain ⟨z, hz, hr⟩ := hcells i _ hx
          rw [hz, rep_v_inv hr]
        obtain ⟨kv, hkv, hrk⟩ := hcells 5 y rfl
        have h2 := h.grow (d := 4 * BASE + id) (x := .kids []) (k := { v := kv, own := none, fp := [] }) (w' := w) (ro' := ro) (row := none) (gs := []) hn (.inr (by unfold XID BASE; omega)) (fun _ _ h => by cases h) ⟨rfl, rfl, rfl, Nat.le_refl _, fun _ _ _ => rfl⟩ (Nat.le_refl _) (fun b h => by cases h) (fun b hb => hb) (fun b hb => .inl hb)
          ⟨rep_nilK hrk hy, List.nodup_nil⟩ (fun b hb => by cases hb) (fun b q hb => by cases owns_own rfl hb)
        have hne : id ≠ 4 * BASE + id := by unfold BASE; omega
        have hid2 : updB (getB st.2) [(4 * BASE + id, some (.kids []))] id = some (some (.vr [AV.v (.bool b), .v (.int .i64 p.a), .v (.int .i64 p.b), .v (.int .i64 p.c), .v (.int .i64 p.d), y])) := by
          rw [updB_one, if_neg hne]; exact hb
        have hc : c.toList = [.bool b, .int .i64 p.a, .int .i64 p.b, .int .i64 p.c, .int .i64 p.d] ++ [kv] := by
          apply List.ext_getElem?
          intro i
          rw [Array.getElem?_toList]
          match i with
          | 0 => exact g 0 (by omega) _ rfl
          | 1 => exact g 1 (by omega) _ rfl
          | 2 => exact g 2 (by omega) _ rfl
          | 3 => exact g 3 (by omega) _ rfl
          | 4 => exact g 4 (by omega) _ rfl
          | 5 => exact hkv
          | i + 6 => simp [hsz]
        have h3 := h2.storeQ (w' := w) (id := id) (kid := 4 * BASE + id) (xs := [.bool b, .int .i64 p.a, .int .i64 p.b, .int .i64 p.c, .int .i64 p.d]) (k := k) (kk := { v := kv, own := none, fp := [] }) hid2 ((if_neg hne).trans hk) (if_pos rfl) rfl rfl rfl rfl rfl (Nat.le_refl _) (fun _ _ => rfl) (fun _ e => by subst e; cases hX) ⟨b0, c, tt, hown, hheap, hc⟩
        have e2 : getB ((id, some (.vq (4 * BASE + id) [.bool b, .int .i64 p.a, .int .i64 p.b, .int .i64 p.c, .int .i64 p.d])) :: (4 * BASE + id, some (.kids [])) :: st.2) = updB (updB (getB st.2) [(4 * BASE + id, some (.kids []))]) [(id, some (.vq (4 * BASE + id) [.bool b, .int .i64 p.a, .int .i64 p.b, .int .i64 p.c, .int .i64 p.d]))] := by
          funext q
          rw [← updB_cons]
          exact getB_app [(_, _), (_, _)] st.2 q
        show R w0 N _ (getB ((id, some (.vq (4 * BASE + id) [.bool b, .int .i64 p.a, .int .i64 p.b, .int .i64 p.c, .int .i64 p.d])) :: (4 * BASE + id, some (.kids [])) :: st.2)) a w
        rw [e2]
        exact ⟨_, _, h3⟩
      · exact R.prom r st h
    · exact R.prom r st h
/-! ### loops -/
section
variable {P : Program} {N : Nat} {ρ : Type} {cx : Cx ρ} {r : ρ}
/-- what is needed at a loop's head: temporaries, blocks; which of the temporaries are rows of one's own. -/
structure Hd where
  ol : List (Nat × TypeId × El)
  lv : List Nat
  lb : List Nat
  fl : List Nat := []
  ql : List Nat := []
/-- what is kept: rows given up, rows begun. -/
def prep (H : Hd) (st : S2) : S2 := prom H.ql (thaw H.ol (melt H.lv (frost H.fl st)))
theorem R.prep {N : Nat} {w0 : Base} {a : Act} {w : World} (H : Hd) {st : S2} (h : R w0 N (get st.1) (getB st.2) a w) : R w0 N (get (prep H st).1) (getB (prep H st).2) a w := R.prom H.ql _ (R.thaw H.ol _ (R.melt H.lv _ (R.frost H.fl st h)))
/-- rounds of a loop, from a state of which just what is needed is told. -/
def iter (round : S2 → (Exit → S2 → Option ρ) → Option ρ) (H : Hd) (K : Exit → S2 → Option ρ) : Nat → S2 → Option ρ
  | 0, _ => none
  | k + 1, st => round st fun
    | .normal, st' => (match keepOk (prep H st') H.lv H.lb with
      | true => iter round H K k (keepS (prep H st') H.lv H.lb)
      | false => none)
    | e, st' => K e st'

theorem iter_seq {c : Code} {H : Hd} {K : Exit → S2 → Option ρ} (hround : ∀ st K r, evCode cx c st K = some r → ∃ e st', K e st' = some r ∧ To P N c st e st') : ∀ k st, iter (evCode cx c) H K k st = some r →
    ∃ (m : Nat) (seq : Nat → S2) (e : Exit) (st' : S2), seq 0 = st ∧ (∀ i, i < m → To P N c (seq i) .normal (seq (i + 1))) ∧ To P N c (seq m) e st' ∧ (∀ (h : e = .normal), False) ∧ K e st' = some r
  | 0, st, h => by simp [iter] at h
  | k + 1, st, h => by
    simp only [iter] at h
    obtain ⟨e, st1, hK, hto⟩ := hround _ _ _ h
    cases e with
    | normal =>
      simp only at hK
      split at hK
      · rename_i hr
        obtain ⟨m, seq, e', st', h0, h1, h2, h3, h4⟩ := iter_seq hround k _ hK
        refine ⟨m + 1, fun i => match i with | 0 => st | i + 1 => seq i, e', st', rfl, fun i hi => ?_, h2, h3, h4⟩
        cases i with
        | zero =>
          simp only [h0]
          exact fun w0 a w Q hR hQ => hto w0 a w Q hR fun a' w' hR' => hQ a' w' ((R.prep H hR').keep hr)
        | succ i => exact h1 i (by omega)
      · cases hK
    | exit id => exact ⟨0, fun _ => st, _, st1, rfl, fun i hi => by omega, hto, (fun h => by cases h), hK⟩
    | goto l => exact ⟨0, fun _ => st, _, st1, rfl, fun i hi => by omega, hto, (fun h => by cases h), hK⟩
    | ret => exact ⟨0, fun _ => st, _, st1, rfl, fun i hi => by omega, hto, (fun h => by cases h), hK⟩
    | panic l => exact ⟨0, fun _ => st, _, st1, rfl, fun i hi => by omega, hto, (fun h => by cases h), hK⟩
    | outgrown => exact ⟨0, fun _ => st, _, st1, rfl, fun i hi => by omega, hto, (fun h => by cases h), hK⟩

theorem least (p : Nat → Prop) (h : ∃ j, p j) : ∃ j, p j ∧ ∀ i, p i → j ≤ i := by
  obtain ⟨j, hj⟩ := h
  induction j using Nat.strongRecOn with
  | _ j ih =>
    by_cases hl : ∃ i, p i ∧ i < j
    · obtain ⟨i, hi, hlt⟩ := hl; exact ih i hlt hi
    · exact ⟨j, hj, fun i hi => Nat.le_of_not_lt fun hlt => hl ⟨i, hi, hlt⟩⟩

open Classical in
theorem iter_ok {c : Code} {H : Hd} {K : Exit → S2 → Option ρ} (hround : ∀ st K r, evCode cx c st K = some r → ∃ e st', K e st' = some r ∧ To P N c st e st') {k : Nat} {st : S2} (h : iter (evCode cx c) H K k st = some r) :
    ∃ e st', K e st' = some r ∧ To P N (.loop c) st e st' := by
  obtain ⟨m, seq, e, st', h0, h1, h2, h3, h4⟩ := iter_seq hround k st h
  refine ⟨e, st', h4, fun w0 a w Q hR hQ => ?_⟩
  let T : Act → World → Nat → Prop := fun a w j => ∃ i, i + j = m ∧ R w0 N (get (seq i).1) (getB (seq i).2) a w
  refine wp_loop (fun a w => ∃ j, T a w j) (fun a w => if h : ∃ j, T a w j then Classical.choose (least _ h) else 0) ⟨m, 0, by omega, by rw [h0]; exact hR⟩ fun a w hI => ?_
  obtain ⟨⟨i, hi, hRi⟩, hmin⟩ := Classical.choose_spec (least _ hI)
  by_cases him : i < m
  · refine h1 i him w0 a w _ hRi fun a' w' hR' => ?_
    have hT : T a' w' (m - (i + 1)) := ⟨i + 1, by omega, hR'⟩
    refine ⟨⟨_, hT⟩, ?_⟩
    rw [dif_pos hI, dif_pos ⟨_, hT⟩]
    have hle := (Classical.choose_spec (least _ ⟨_, hT⟩)).2 _ hT
    omega
  · have : i = m := by omega
    subst this
    refine h2 w0 a w _ hRi fun a' w' hR' => ?_
    have := hQ a' w' hR'
    cases e with
    | normal => exact (h3 rfl).elim
    | exit id => exact this
    | goto l => exact this
    | ret => exact this
    | panic l => exact this
    | outgrown => exact this
end
end Go.Proofs.YtalkkenkeilmpaaGreat.Ev
