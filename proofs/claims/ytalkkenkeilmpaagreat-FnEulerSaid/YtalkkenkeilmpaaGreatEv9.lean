/- What the evaluator tells of an operation is what the model does. -/
import Derived.Test.YtalkkenkeilmpaaGreatEv8
namespace Go.Proofs.YtalkkenkeilmpaaGreat.Ev
open Go Go.RowKit
set_option linter.unusedVariables false
set_option linter.unusedSimpArgs false

/-- a state of which no more is told. -/
structure Sub (gr : Nat → SV) (gBr : Nat → Option (Option Box)) (g : Nat → SV) (gB : Nat → Option (Option Box)) (o : Oper) : Prop where
  t : ∀ s, gr s ≠ .dead → g s = gr s
  b : ∀ id x, gBr id = some (some x) → gB id = some (some x)
  d : ∀ d, o.dst = some d → gBr d = none → gB d = none

theorem Sub.refl (g : Nat → SV) (gB : Nat → Option (Option Box)) (o : Oper) : Sub g gB g gB o := ⟨fun _ _ => rfl, fun _ _ h => h, fun _ _ h => h⟩

section
variable {P : Program} {N : Nat} {g gr : Nat → SV} {gB gBr : Nat → Option (Option Box)} {o : Oper}

theorem Sub.sv (S : Sub gr gBr g gB o) {x : Operand} {s : SV} (h : sv gr x = s) (hs : s ≠ .dead) : sv g x = s := by
  cases x with
  | tmp t => simp only [Ev.sv] at h ⊢; rw [S.t t (by rw [h]; exact hs), h]
  | const v => exact h
  | func f => exact h
  | global n => exact absurd h.symm hs
theorem Sub.exA (S : Sub gr gBr g gB o) {x : Operand} {y : AV} (h : exA gr gBr x = some y) : exA g gB x = some y := by
  unfold Ev.exA at h ⊢
  split at h
  · rename_i a ha; rw [S.sv ha (by simp)]; exact h
  · rename_i id ha
    rw [S.sv ha (by simp)]
    split at h
    · rename_i t e l hb; simp only [S.b _ _ hb]; exact h
    · rename_i e l hb; simp only [S.b _ _ hb]; exact h
    · rename_i l hb; simp only [S.b _ _ hb]; exact h
    · rename_i t te l hb; simp only [S.b _ _ hb]; exact h
    · cases h
  · rename_i id xs ha
    rw [S.sv ha (by simp)]
    split at h
    · rename_i l hb; simp only [S.b _ _ hb]; exact h
    · cases h
  · rename_i xs ha; rw [S.sv ha (by simp)]; exact h
  · rename_i id off ha
    rw [S.sv ha (by simp)]
    split at h
    · rename_i xs hb; simp only [S.b _ _ hb]; exact h
    · cases h
  · cases h
theorem Sub.exN (S : Sub gr gBr g gB o) {x : Operand} {y : AV} (h : exN gr gBr x = some y) : exN g gB x = some y := by
  unfold Ev.exN at h ⊢
  split at h
  · rename_i a ha; rw [S.sv ha (by simp)]; exact h
  · rename_i id ha
    rw [S.sv ha (by simp)]
    split at h
    · rename_i t e l hb; simp only [S.b _ _ hb]; exact h
    · rename_i e l hb; simp only [S.b _ _ hb]; exact h
    · cases h
  · cases h
theorem Sub.exF (S : Sub gr gBr g gB o) {x : Operand} {y : AV × Bxs} (h : exF gr gBr x = some y) : exF g gB x = some y := by
  unfold Ev.exF at h ⊢
  split at h
  · rename_i a ha; rw [S.sv ha (by simp)]; exact h
  · rename_i id ha
    rw [S.sv ha (by simp)]
    split at h
    · rename_i t e l hb; simp only [S.b _ _ hb]; exact h
    · rename_i e l hb; simp only [S.b _ _ hb]; exact h
    · cases h
  · cases h
theorem Sub.args (S : Sub gr gBr g gB o) : ∀ (xs : List Operand) (as : List AV), args gr gBr xs = some as → args g gB xs = some as
  | [], as, h => h
  | x :: xs, as, h => by
    simp only [Ev.args] at h ⊢
    split at h
    · rename_i y hy
      rw [S.exA hy]
      split at h
      · rename_i l hl; rw [S.args xs l hl]; exact h
      · cases h
    · cases h
theorem Sub.parts (S : Sub gr gBr g gB o) : ∀ (xs : List (Nat × Operand)) (r : List (Nat × AV) × Bxs), parts gr gBr xs = some r → parts g gB xs = some r
  | [], as, h => h
  | (i, x) :: xs, as, h => by
    simp only [Ev.parts] at h ⊢
    split at h
    · rename_i y bs hy
      rw [S.exF hy]
      split at h
      · rename_i l hl hp; rw [S.parts xs _ hp]; exact h
      · cases h
    · cases h

theorem sub_argsF (S : Sub gr gBr g gB o) : ∀ (xs : List Operand) (r : List AV × Bxs), argsF gr gBr xs = some r → argsF g gB xs = some r
  | [], as, h => h
  | x :: xs, as, h => by
    simp only [argsF] at h ⊢
    split at h
    · rename_i ys hx
      rw [S.sv hx (by simp)]
      split at h
      · rename_i l bs hl; simp only [sub_argsF S xs _ hl]; exact h
      · cases h
    · rename_i id ys hx
      rw [S.sv hx (by simp)]
      split at h
      · rename_i l hb
        split at h
        · rename_i l bs hl; simp only [S.b _ _ hb, sub_argsF S xs _ hl]; exact h
        · cases h
      · cases h
    · rename_i hx hx'
      split at h
      · rename_i a bs ha
        have ha' := S.exF ha
        split at h
        · rename_i l bs' hl
          have hne : ∀ ys, sv g x ≠ .pt ys := fun ys e => by
            unfold exF at ha'
            rw [e] at ha'; cases ha'
          have hne' : ∀ id ys, sv g x ≠ .kv id ys := fun id ys e => by
            unfold exF at ha'
            rw [e] at ha'; cases ha'
          split
          · rename_i ys e; exact absurd e (hne ys)
          · rename_i id ys e; exact absurd e (hne' id ys)
          · rw [ha', sub_argsF S xs _ hl]; exact h
        · cases h
      · cases h

theorem Sub.stA (S : Sub gr gBr g gB o) {k : SK} {x : Operand} {r : Nat × Box} (h : Ev.stA gr gBr k x = some r) : Ev.stA g gB k x = some r := by
  unfold Ev.stA at h
  split at h
  · rename_i hx
    split at h
    · rename_i hb; simp only [Ev.stA, S.sv hx (by simp), S.b _ _ hb]; exact h
    · cases h
  · rename_i hx
    split at h
    · rename_i hb; simp only [Ev.stA, S.sv hx (by simp), S.b _ _ hb]; exact h
    · rename_i hb; simp only [Ev.stA, S.sv hx (by simp), S.b _ _ hb]; exact h
    · rename_i hb; simp only [Ev.stA, S.sv hx (by simp), S.b _ _ hb]; exact h
    · rename_i hb; simp only [Ev.stA, S.sv hx (by simp), S.b _ _ hb]; exact h
    · cases h
  · rename_i hx
    split at h
    · rename_i hb h5; simp only [Ev.stA, S.sv hx (by simp), S.b _ _ hb, h5]; exact h
    · cases h
  · cases h
theorem Sub.stQ (S : Sub gr gBr g gB o) {id off len : Nat} {x : Operand} {sz : Option Nat} {r : Nat × List Value} (h : Ev.stQ gr gBr id off x sz len = some r) : Ev.stQ g gB id off x sz len = some r := by
  unfold Ev.stQ at h ⊢
  split at h
  · rename_i n hx h0 hX
    rw [S.sv hx (by simp)]
    simp only [h0, hX]
    split at h
    · rename_i hb h1 h2 h3
      simp only [S.b _ _ hb, h1, h2, h3]; exact h
    · cases h
  · cases h
theorem Sub.ndA (S : Sub gr gBr g gB o) {x : Operand} {r : Tree × Option Nat} (h : Ev.ndA gr gBr x = some r) : Ev.ndA g gB x = some r := by
  unfold Ev.ndA at h ⊢
  split at h
  · rename_i hx
    rw [S.sv hx (by simp)]
    split at h
    · rename_i hb hs; simp only [S.b _ _ hb, hs]; exact h
    · cases h
  · rename_i hx
    rw [S.sv hx (by simp)]
    exact h
  · cases h
theorem Sub.bldB (S : Sub gr gBr g gB o) {e : El} {ps : List (Nat × Operand)} {r : Nat × TypeId × List S4} (h : Ev.bldB gr gBr e ps = some r) : Ev.bldB g gB e ps = some r := by
  unfold Ev.bldB at h ⊢
  split at h
  · rename_i i x
    split at h
    · rename_i id h0 hx
      simp only [S.sv hx (by simp), h0]
      split at h
      · rename_i te l hb; simp only [S.b _ _ hb]; exact h
      · cases h
    · cases h
  · cases h
theorem Sub.appB (S : Sub gr gBr g gB o) {e : El} {x y : Operand} {r : Nat × Nat × TypeId × TypeId × List (List S4) × List (List S4)} (h : Ev.appB gr gBr e x y = some r) : Ev.appB g gB e x y = some r := by
  unfold Ev.appB at h ⊢
  split at h
  · rename_i id id' hx hy
    simp only [S.sv hx (by simp), S.sv hy (by simp)]
    split at h
    · rename_i h1 h2; simp only [S.b _ _ h1, S.b _ _ h2]; exact h
    · cases h
  · cases h
theorem Sub.plA (S : Sub gr gBr g gB o) {x : Operand} {p : S4} (h : Ev.plA (Ev.sv gr x) = some p) : Ev.plA (Ev.sv g x) = some p := by
  have : Ev.sv gr x ≠ .dead := fun e => by rw [e] at h; cases h
  rw [S.sv rfl this]; exact h
theorem Sub.hid (S : Sub gr gBr g gB o) (id : Nat) : Sub gr (Ev.hid gBr id) g (Ev.hid gB id) o where
  t := S.t
  b i x hx := by
    obtain ⟨hne, h1⟩ := hid_live hx
    unfold Ev.hid
    rw [show Nat.beq id i = false from by cases hb : Nat.beq id i <;> simp_all [beq_iff]]
    exact S.b _ _ h1
  d d hd hx := by
    unfold Ev.hid at hx ⊢
    split at hx
    · cases hx
    · exact S.d d hd hx
theorem Sub.argsS (S : Sub gr gBr g gB o) {id : Nat} {r : List Operand} {as : List AV} {bs : Bxs} {pl : Bool} (h : Ev.argsS gr gBr id r = some (as, bs, pl)) : (argsF g gB r = some (as, bs) ∧ getB bs id = none ∧ pl = true) ∨ (bs = [] ∧ pl = false ∧ Ev.args g (Ev.hid gB id) r = some as) := by
  unfold Ev.argsS at h
  split at h
  · rename_i hF
    split at h
    · rename_i hn; cases h; exact .inl ⟨sub_argsF S _ _ hF, hn, rfl⟩
    · cases h
  · split at h
    · rename_i ha; cases h; exact .inr ⟨rfl, rfl, (S.hid id).args _ _ ha⟩
    · cases h
theorem outS_ok {b' : Box} {rt : Rt} {bs bo : Bxs} {pl : Bool} (h : outS b' rt bs pl = some bo) : (plainB b' = true ∧ plainR rt = true ∧ bo = []) ∨ (pl = true ∧ bo = bs) := by
  unfold outS at h
  split at h
  · cases h
  split at h
  · rename_i hp hp'; cases h; exact .inl ⟨hp, hp', rfl⟩
  · split at h
    · cases h; exact .inr ⟨rfl, rfl⟩
    · cases h
theorem outS_nv {b' : Box} {rt : Rt} {bs bo : Bxs} {pl : Bool} (h : outS b' rt bs pl = some bo) : ∀ kid xs, b' ≠ .vq kid xs := fun kid xs e => by
  subst e; unfold outS isVq at h; cases h

variable {ρ : Type} {cx : Cx ρ} {K : Upd → Option ρ} {r : ρ}

def cxU (P : Program) : Cx Upd := { P := P, call := fun _ _ _ => none, loop := fun _ _ _ => none, stf := fun _ => none, callS := fun _ _ _ _ => none, rrf := fun _ => false, callR := fun _ _ _ => none, ndf := fun _ => false }
theorem ldv_cx (hP : cx.P = P) {t : TypeId} {xs : List AV} : ldv cx t xs = ldv (cxU P) t xs := by
  subst hP; rfl

theorem evPure_ok (hP : cx.P = P) (hd : ∀ d, o.dst = some d → d < N) (h : evPure cx gr o K = some r) : ∃ u, K u = some r ∧ ∀ g gB, Sub gr gBr g gB o → Okk P N g gB o u := by
  subst hP
  unfold evPure at h
  split at h
  · rename_i hb
    rw [Bool.and_eq_true] at hb
    split at h
    · rename_i x hx
      refine ⟨_, h, fun g gB S => ok_pure ?_ ?_ ?_ hd⟩
      · intro cs b e
        rw [e] at hb; simp [noSel] at hb
      · refine List.all_eq_true.2 fun y hy => ?_
        have h1 := List.all_eq_true.1 hb.2 y hy
        unfold exact at h1 ⊢
        split at h1
        · rename_i v hv; rw [S.sv hv (by simp)]
        · cases h1
      · rw [← hx]
        congr 1
        refine execOp_congr o (fun cs b e => by rw [e] at hb; simp [noSel] at hb) fun y hy => ?_
        have h1 := List.all_eq_true.1 hb.2 y (by simpa using hy)
        unfold exact at h1
        unfold rho
        split at h1
        · rename_i v hv; rw [S.sv hv (by simp)]
        · cases h1
    · cases h
  · cases h

theorem ok_copy {x : Operand} {s : SV} (ho : o.op = .move x ∨ o.op = .assign x) (hs : s = .dead ∨ sv g x = s) (hd : ∀ d, o.dst = some d → d < N) : Okk P N g gB o ⟨s, []⟩ :=
  okV0 hd fun w0 a w ro β hR => ⟨a.eval x, by rcases ho with h | h <;> simp [execOp, h], by rcases hs with rfl | h; trivial; exact h ▸ hR.sv x⟩
theorem sub_copy (S : Sub gr gBr g gB o) (x : Operand) : sv gr x = .dead ∨ sv g x = sv gr x := by
  by_cases h : sv gr x = .dead
  · exact .inl h
  · exact .inr (S.sv rfl h)
theorem ok_pick' {c x y : Operand} {t : Bool} {s : SV} (ho : o.op = .pick c x y) (hc : sv g c = .p (.v (.bool t))) (hs : s = .dead ∨ (if t = true then sv g x else sv g y) = s) (hd : ∀ d, o.dst = some d → d < N) : Okk P N g gB o ⟨s, []⟩ :=
  okV0 hd fun w0 a w ro β hR => by
    have h1 := hR.sv c
    rw [hc] at h1
    have h2 := rep_v_inv h1
    cases t
    · exact ⟨a.eval y, by simp [execOp, ho, h2, asBool], by rcases hs with rfl | h; trivial; simp at h; exact h ▸ hR.sv y⟩
    · exact ⟨a.eval x, by simp [execOp, ho, h2, asBool], by rcases hs with rfl | h; trivial; simp at h; exact h ▸ hR.sv x⟩

theorem sameOpd_ok {x y : Operand} {k : IntKind} {n : Int} (h : sameOpd x y = true) (hx : sv g x = .p (.v (.int k n))) : sv g y = .p (.v (.int k n)) := by
  unfold sameOpd at h
  split at h
  · rw [beq_iff] at h; subst h; exact hx
  · simp only [Bool.and_eq_true, decide_eq_true_eq] at h
    obtain ⟨rfl, rfl⟩ := h; exact hx
  · cases h

/-- what a context promises of its calls. -/
structure CallsOk (P : Program) (cx : Cx ρ) : Prop where
  fn : ∀ f as K r, cx.call f as K = some r → ∃ G rt, Fun P f G ∧ G as = some rt ∧ K rt = some r
  st : ∀ f k b as K r, cx.stf f = some k → cx.callS f b as K = some r → ∃ H rt b', FunS P f k H ∧ H b as = some (rt, b') ∧ K b' rt = some r
  rr : ∀ f b K r, cx.rrf f = true → cx.callR f b K = some r → ∃ H b', FunR P f H ∧ H b = some b' ∧ K b' = some r
  nd : ∀ f, cx.ndf f = true → FunN P f

set_option maxHeartbeats 1600000 in
theorem evOp_ok (hP : cx.P = P) (hC : CallsOk P cx) (hd : ∀ d, o.dst = some d → d < N) (h : evOp cx gr gBr o K = some r) : ∃ u, K u = some r ∧ ∀ g gB, Sub gr gBr g gB o → Okk P N g gB o u := by
  have dflt : ∀ (h : evPure cx gr o K = some r), ∃ u, K u = some r ∧ ∀ g gB, Sub gr gBr g gB o → Okk P N g gB o u := evPure_ok hP hd
  unfold evOp at h
  split at h
  case h_1 => rename_i x hop; exact ⟨_, h, fun g gB S => ok_copy (.inl hop) (sub_copy S x) hd⟩
  case h_2 => rename_i x hop; exact ⟨_, h, fun g gB S => ok_copy (.inr hop) (sub_copy S x) hd⟩
  case h_3 =>
    rename_i c x y hop
    split at h
    · rename_i t hc
      have hc' := fun (g : Nat → SV) (gB : Nat → Option (Option Box)) (S : Sub gr gBr g gB o) => S.sv hc (by simp)
      split at h
      · rename_i ht; exact ⟨_, h, fun g gB S => ok_pick' hop (S.sv hc (by simp)) (by rcases sub_copy S x with e | e; exact .inl e; exact .inr (by rw [if_pos ht]; exact e)) hd⟩
      · rename_i ht; exact ⟨_, h, fun g gB S => ok_pick' hop (S.sv hc (by simp)) (by rcases sub_copy S y with e | e; exact .inl e; exact .inr (by rw [if_neg ht]; exact e)) hd⟩
    · cases h
  case h_4 =>
    rename_i x hop
    split at h
    · rename_i id off hx; exact ⟨_, h, fun g gB S => ok_nil hop (S.sv hx (by simp)) (.inl ⟨_, _, rfl⟩) hd⟩
    · rename_i id j c hx; exact ⟨_, h, fun g gB S => ok_nil hop (S.sv hx (by simp)) (.inr (.inl ⟨_, _, _, rfl⟩)) hd⟩
    · rename_i xs hx; exact ⟨_, h, fun g gB S => ok_nil hop (S.sv hx (by simp)) (.inr (.inr ⟨_, rfl⟩)) hd⟩
    · cases h
  case h_5 =>
    rename_i t x hop
    split at h
    · rename_i d hdst
      split at h
      · rename_i hb
        split at h
        · rename_i a bs hx; exact ⟨_, h, fun g gB S => ok_box hop hdst (hd d hdst) (S.d d hdst hb) (S.exF hx)⟩
        · cases h
      · cases h
    · cases h
  case h_6 =>
    rename_i t hop
    split at h
    · rename_i d hdst
      split at h
      · rename_i hb
        split at h
        · rename_i z hz; exact ⟨_, h, fun g gB S => ok_alloc hop hdst (hd d hdst) (S.d d hdst hb) (hP ▸ hz)⟩
        · cases h
      · cases h
    · cases h
  case h_7 =>
    rename_i t a hop
    split at h
    · rename_i id off hx
      split at h
      · rename_i xs hb
        split at h
        · rename_i y hy; exact ⟨_, h, fun g gB S => ok_load_ref (cx := cxU P) rfl hop (S.sv hx (by simp)) (S.b _ _ hb) (ldv_cx hP ▸ hy) hd⟩
        · cases h
      · rename_i kid xs hb
        split at h
        · rename_i y hy; exact ⟨_, h, fun g gB S => ok_load_vq (cx := cxU P) rfl hop (S.sv hx (by simp)) (S.b _ _ hb) (ldv_cx hP ▸ hy) hd⟩
        · split at h
          · rename_i n h0 hag hn
            split at h
            · rename_i hl
              have h0 := beq_iff.1 h0; subst h0
              exact ⟨_, h, fun g gB S => ok_load_sol hop (S.sv hx (by simp)) (S.b _ _ hb) (hP ▸ hag) (hP ▸ hn) (beq_iff.1 hl) hd⟩
            · cases h
          · cases h
      · cases h
    · rename_i id j c hx
      split at h
      · rename_i tt e l hb
        split at h
        · rename_i y hy
          split at h
          · rename_i hj; exact ⟨_, h, fun g gB S => ok_load_eref (cx := cxU P) rfl hop (S.sv hx (by simp)) (S.b _ _ hb) hj (ldv_cx hP ▸ hy) hd⟩
          · cases h
        · cases h
      · cases h
    · rename_i id off n i' hx
      split at h
      · rename_i xs hb
        split at h
        · rename_i l hag hl
          split at h
          · rename_i hn; exact ⟨_, h, fun g gB S => ok_load_rix hop (S.sv hx (by simp)) (S.b _ _ hb) (hP ▸ hag) hl (beq_iff.1 hn) hd⟩
          · cases h
        · cases h
      · cases h
    · rename_i xs hx
      split at h
      · rename_i y hy; exact ⟨_, h, fun g gB S => ok_load_pt (cx := cxU P) rfl hop (S.sv hx (by simp)) (ldv_cx hP ▸ hy) hd⟩
      · cases h
    · cases h
  case h_8 =>
    rename_i t a x hop
    split at h
    · rename_i id off hx
      split at h
      · rename_i xs hb
        split at h
        · rename_i y bs hy
          split at h
          · rename_i n hn
            split at h
            · rename_i h1 h2 h3
              rw [beq_iff] at h1
              exact ⟨_, h, fun g gB S => ok_store_ref hop (S.sv hx (by simp)) (S.b _ _ hb) (S.exF hy) (hP ▸ hn) h1 (Nat.le_of_ble_eq_true h2) h3 hd⟩
            · cases h
          · cases h
        · split at h
          · rename_i kid ys hq
            subst hP
            exact ⟨_, h, fun g gB S => ok_store_sol hop (S.sv hx (by simp)) (S.b _ _ hb) (.inl ⟨_, rfl, rfl⟩) (S.stQ hq) hd⟩
          · cases h
      · rename_i k0 xs hb
        split at h
        · rename_i kid ys hq
          subst hP
          exact ⟨_, h, fun g gB S => ok_store_sol hop (S.sv hx (by simp)) (S.b _ _ hb) (.inr ⟨_, _, rfl, rfl⟩) (S.stQ hq) hd⟩
        · cases h
      · cases h
    · rename_i id j c hx
      split at h
      · rename_i tt e l hb
        split at h
        · rename_i y bs hy
          split at h
          · rename_i n hn
            split at h
            · rename_i h1 h2 h3
              rw [beq_iff] at h1
              split at h
              · rename_i uu hu hnb
                split at h
                · rename_i hj; exact ⟨_, h, fun g gB S => ok_store_eref hop (S.sv hx (by simp)) (S.b _ _ hb) hj (S.exF hy) (hP ▸ hn) h1 (Nat.le_of_ble_eq_true h2) h3 hu hnb hd⟩
                · cases h
              · cases h
            · cases h
          · cases h
        · cases h
      · cases h
    · cases h
  case h_9 =>
    rename_i t x f hop
    split at h
    · rename_i k tt hf
      have hf' := hP ▸ hf
      split at h
      · rename_i id off hx; exact ⟨_, h, fun g gB S => ok_fieldAddr hop hf' (.inl ⟨_, _, S.sv hx (by simp), rfl⟩) hd⟩
      · rename_i id j c hx; exact ⟨_, h, fun g gB S => ok_fieldAddr hop hf' (.inr (.inl ⟨_, _, _, S.sv hx (by simp), rfl⟩)) hd⟩
      · rename_i xs hx; exact ⟨_, h, fun g gB S => ok_fieldAddr hop hf' (.inr (.inr ⟨_, S.sv hx (by simp), rfl⟩)) hd⟩
      · cases h
    · cases h
  case h_10 =>
    rename_i t x f hop
    split at h
    · rename_i k tt hf
      have hf' := hP ▸ hf
      split at h
      · rename_i a hx
        split at h
        · rename_i y hag hl
          exact ⟨_, h, fun g gB S => ok_field (cx := cxU P) rfl hop hf' (S.sv hx (by simp)) hag (ldv_cx hP ▸ hl) hd⟩
        · cases h
      · cases h
    · cases h
  case h_11 =>
    rename_i t x i hop
    split at h
    · rename_i kk i' hi
      have hi' := fun (g : Nat → SV) (gB : Nat → Option (Option Box)) (S : Sub gr gBr g gB o) => S.sv hi (by simp)
      split at h
      · rename_i el ht
        have ht' := hP ▸ ht
        split at h
        · rename_i e l hx
          split at h
          · rename_i z hz
            have hz' := hP ▸ hz
            split at h
            · rename_i hze
              split at h
              · rename_i h0
                split at h
                · rename_i h1; exact ⟨_, h, fun g gB S => ok_indexAddr hop (hi' g gB S) ht' hz' h0 (.inl ⟨e, l, beq_iff.1 hze, S.sv hx (by simp), h1, rfl⟩) hd⟩
                · cases h
              · cases h
            · cases h
          · cases h
        · rename_i id hx
          split at h
          · rename_i tt e l hb
            split at h
            · rename_i z hz
              have hz' := hP ▸ hz
              split at h
              · rename_i hze
                split at h
                · rename_i h0
                  split at h
                  · rename_i h1; exact ⟨_, h, fun g gB S => ok_indexAddr hop (hi' g gB S) ht' hz' h0 (.inr ⟨id, tt, e, l, beq_iff.1 hze, S.sv hx (by simp), .inl ⟨S.b _ _ hb, rfl⟩, h1⟩) hd⟩
                  · cases h
                · cases h
              · cases h
            · cases h
          · rename_i e l hb
            split at h
            · rename_i z hz
              have hz' := hP ▸ hz
              split at h
              · rename_i hze
                split at h
                · rename_i h0
                  split at h
                  · rename_i h1; exact ⟨_, h, fun g gB S => ok_indexAddr hop (hi' g gB S) ht' hz' h0 (.inr ⟨id, 0, e, l, beq_iff.1 hze, S.sv hx (by simp), .inr ⟨S.b _ _ hb, rfl⟩, h1⟩) hd⟩
                  · cases h
                · cases h
              · cases h
            · cases h
          · cases h
        · cases h
      · rename_i n el ht
        have ht' := hP ▸ ht
        split at h
        · rename_i id off hx
          split at h
          · rename_i z hz
            have hz' := hP ▸ hz
            split at h
            rotate_left
            · split at h
              · rename_i hz0
                have hz0 := beq_iff.1 hz0
                subst hz0
                split at h
                · rename_i h0
                  split at h
                  · rename_i h1; exact ⟨_, h, fun g gB S => ok_indexRix hop (hi' g gB S) ht' hz' (S.sv hx (by simp)) h0 h1 hd⟩
                  · cases h
                · cases h
              · cases h
            obtain ⟨m, rfl, hm, hK⟩ := byIx_ok _ _ h
            exact ⟨_, hK, fun g gB S => ok_indexArr hop (hi' g gB S) ht' hz' (S.sv hx (by simp)) (by omega) hd⟩
          · cases h
        · rename_i id j c0 hx
          split at h
          · rename_i z hz
            obtain ⟨m, rfl, hm, hK⟩ := byIx_ok _ _ h
            exact ⟨_, hK, fun g gB S => ok_indexSub hop (hi' g gB S) ht' (hP ▸ hz) (by omega) (.inl ⟨_, _, _, S.sv hx (by simp), rfl⟩) hd⟩
          · cases h
        · rename_i xs hx
          split at h
          · rename_i z hz
            obtain ⟨m, rfl, hm, hK⟩ := byIx_ok _ _ h
            exact ⟨_, hK, fun g gB S => ok_indexSub hop (hi' g gB S) ht' (hP ▸ hz) (by omega) (.inr ⟨_, S.sv hx (by simp), rfl⟩) hd⟩
          · cases h
        · cases h
      · cases h
    · cases h
  case h_12 =>
    rename_i t x i hop
    split at h
    · rename_i kk i' hi
      have hi' := fun (g : Nat → SV) (gB : Nat → Option (Option Box)) (S : Sub gr gBr g gB o) => S.sv hi (by simp)
      split at h
      · rename_i n el ht
        have ht' := hP ▸ ht
        split at h
        · rename_i a hx
          split at h
          · rename_i z hag hz
            have hz' := hP ▸ hz
            split at h
            rotate_left
            · split at h
              · rename_i l hz1 hag2 hl
                have hz1 := beq_iff.1 hz1
                subst hz1
                split at h
                · rename_i hn
                  split at h
                  · rename_i h0
                    split at h
                    · rename_i h1; exact ⟨_, h, fun g gB S => ok_indexSel hop (hi' g gB S) ht' (S.sv hx (by simp)) hag hz' (hP ▸ hag2) hl (beq_iff.1 hn) h0 h1 hd⟩
                    · cases h
                  · cases h
                · cases h
              · cases h
            obtain ⟨m, rfl, hm, hK⟩ := byIx_ok _ _ h
            split at hK
            · rename_i y hl
              exact ⟨_, hK, fun g gB S => ok_index (cx := cxU P) rfl hop (hi' g gB S) ht' (S.sv hx (by simp)) hag hz' (by omega) (ldv_cx hP ▸ hl) hd⟩
            · cases hK
          · cases h
        · cases h
      · cases h
    · cases h
  case h_13 =>
    rename_i t ps hop
    split at h
    · rename_i z hz
      split at h
      · rename_i l bs hp
        split at h
        · rename_i place hpl
          split at h
          · rename_i cs hcs; exact ⟨_, h, fun g gB S => ok_build hop (hP ▸ hz) (S.parts _ _ hp) (hP ▸ hpl) hcs hd⟩
          · cases h
        · cases h
      · cases h
    · cases h
  case h_14 =>
    rename_i t len ps hop
    split at h
    · rename_i d hdst
      split at h
      · rename_i hb
        split at h
        · rename_i el ht
          split at h
          · rename_i e he
            split at h
            · rename_i h1 h2
              split at h
              · rename_i id te l hbl; exact ⟨_, h, fun g gB S => ok_bldR hop hdst (hd d hdst) (S.d d hdst hb) (hP ▸ ht) (hP ▸ he) (beq_iff.1 h1) (S.bldB hbl)⟩
              split at h
              · rename_i l bs hp
                split at h
                · rename_i xs hxs; exact ⟨_, h, fun g gB S => ok_buildSlice hop hdst (hd d hdst) (S.d d hdst hb) (hP ▸ ht) (hP ▸ he) (beq_iff.1 h1) (Nat.le_of_ble_eq_true h2) (S.parts _ _ hp) hxs⟩
                · cases h
              · cases h
            · cases h
          · cases h
        · cases h
      · cases h
    · cases h
  case h_15 =>
    rename_i t x y hop
    split at h
    · rename_i d hdst
      split at h
      · rename_i hb
        split at h
        · rename_i k n hx
          split at h
          · cases h
          · rename_i hsame
            split at h
            · rename_i el ht
              split at h
              · rename_i e he
                split at h
                · rename_i z hz
                  split at h
                  · rename_i hzk
                    split at h
                    · rename_i h0
                      split at h
                      · rename_i h1
                        have hx' := fun (g : Nat → SV) (gB : Nat → Option (Option Box)) (S : Sub gr gBr g gB o) => S.sv hx (by simp)
                        exact ⟨_, h, fun g gB S => ok_make hop hdst (hd d hdst) (S.d d hdst hb) (hx' g gB S) (sameOpd_ok hsame (hx' g gB S)) (hP ▸ ht) (hP ▸ he) (hP ▸ hz) hzk h0 h1⟩
                      · cases h
                    · cases h
                  · cases h
                · cases h
              · cases h
            · cases h
        · cases h
      · cases h
    · cases h
  case h_16 =>
    rename_i t x lo hi mx hop
    split at h
    · cases h
    · split at h
      · rename_i el ht
        split at h
        · rename_i e l bs hx
          split at h
          · rename_i z hz
            split at h
            · rename_i hze
              have hz' : szP P el = some e.z := by rw [← beq_iff.1 hze]; exact hP ▸ hz
              split at h
              · rename_i hh
                split at h
                · rename_i n hn
                  have hn' : ∀ (g : Nat → SV) (gB : Nat → Option (Option Box)), Sub gr gBr g gB o → iN (exA g gB hh) = some n := by
                    intro g gB S
                    unfold iN at hn ⊢
                    split at hn
                    · rename_i kk n' hy; rw [S.exA hy]; exact hn
                    · cases hn
                  split at h
                  · rename_i h0
                    split at h
                    · rename_i h1; exact ⟨_, h, fun g gB S => ok_slice hop (hP ▸ ht) (S.exF hx) hz' (.inl ⟨_, n, rfl, rfl, (hn' g gB S), h0, h1, rfl⟩) hd⟩
                    · cases h
                  · cases h
                · cases h
              · rename_i hh
                split at h
                · rename_i n hn
                  have hn' : ∀ (g : Nat → SV) (gB : Nat → Option (Option Box)), Sub gr gBr g gB o → iN (exA g gB hh) = some n := by
                    intro g gB S
                    unfold iN at hn ⊢
                    split at hn
                    · rename_i kk n' hy; rw [S.exA hy]; exact hn
                    · cases hn
                  split at h
                  · rename_i h0
                    split at h
                    · rename_i h1; exact ⟨_, h, fun g gB S => ok_slice hop (hP ▸ ht) (S.exF hx) hz' (.inr ⟨_, n, rfl, rfl, (hn' g gB S), h0, h1, rfl⟩) hd⟩
                    · cases h
                  · cases h
                · cases h
              · cases h
            · cases h
          · cases h
        · cases h
      · cases h
  case h_17 =>
    rename_i x i hop
    split at h
    · rename_i xs hx
      split at h
      · rename_i y hy; exact ⟨_, h, fun g gB S => ok_extract hop (S.sv hx (by simp)) hy hd⟩
      · cases h
    · rename_i kid xs ys hx
      split at h
      · exact ⟨_, h, fun g gB S => ok_extract_sol hop (S.sv hx (by simp)) hd⟩
      · rename_i j
        split at h
        · rename_i y hy; exact ⟨_, h, fun g gB S => ok_extract_by hop (S.sv hx (by simp)) hy hd⟩
        · cases h
    · cases h
  case h_18 =>
    rename_i t x y t' hop
    split at h
    · rename_i a b hx hy
      split at h
      · cases h
      · rename_i hb; exact ⟨_, h, fun g gB S => ok_div hop (.inl ⟨rfl, rfl⟩) (S.sv hx (by simp)) (S.sv hy (by simp)) hb hd⟩
    · rename_i a b hx hy
      split at h
      · cases h
      · rename_i hb; exact ⟨_, h, fun g gB S => ok_div hop (.inl ⟨rfl, rfl⟩) (S.sv hx (by simp)) (S.sv hy (by simp)) hb hd⟩
    · cases h
  case h_19 =>
    rename_i t x y t' hop
    split at h
    · rename_i a b hx hy
      split at h
      · cases h
      · rename_i hb; exact ⟨_, h, fun g gB S => ok_div hop (.inr ⟨rfl, rfl⟩) (S.sv hx (by simp)) (S.sv hy (by simp)) hb hd⟩
    · rename_i a b hx hy
      split at h
      · cases h
      · rename_i hb; exact ⟨_, h, fun g gB S => ok_div hop (.inr ⟨rfl, rfl⟩) (S.sv hx (by simp)) (S.sv hy (by simp)) hb hd⟩
    · cases h
  case h_20 =>
    rename_i t x y t' hop
    split at h
    · rename_i xs ys hx hy
      split at h
      · rename_i q ht he; exact ⟨_, h, fun g gB S => ok_eqAgg (S.sv hx (by simp)) (S.sv hy (by simp)) (hP ▸ ht) he hd (.inl ⟨hop, rfl⟩)⟩
      · cases h
    · rename_i id hx hy
      split at h
      · rename_i el tt e l ht hb
        split at h
        · cases h
        · rename_i hl
          exact ⟨_, h, fun g gB S => ok_neNil (S.sv hx (by simp)) (S.sv hy (by simp)) (S.b _ _ hb) hl (hP ▸ ht) hd (.inl ⟨hop, rfl⟩)⟩
      · cases h
    · exact dflt h
  case h_21 =>
    rename_i t x y t' hop
    split at h
    · rename_i xs ys hx hy
      split at h
      · rename_i q ht he; exact ⟨_, h, fun g gB S => ok_eqAgg (S.sv hx (by simp)) (S.sv hy (by simp)) (hP ▸ ht) he hd (.inr ⟨hop, rfl⟩)⟩
      · cases h
    · rename_i id hx hy
      split at h
      · rename_i el tt e l ht hb
        split at h
        · cases h
        · rename_i hl
          exact ⟨_, h, fun g gB S => ok_neNil (S.sv hx (by simp)) (S.sv hy (by simp)) (S.b _ _ hb) hl (hP ▸ ht) hd (.inr ⟨hop, rfl⟩)⟩
      · cases h
    · exact dflt h
  case h_22 =>
    rename_i c hop
    split at h
    · rename_i hc
      split at h
      · rename_i x hargs
        split at h
        · rename_i e l hx
          split at h
          · rename_i t ht
            split at h
            · rename_i el hu; exact ⟨_, h, fun g gB S => ok_len hop hc hargs ht (hP ▸ hu) (.inl ⟨e, l, S.sv hx (by simp), rfl⟩) hd⟩
            · cases h
          · cases h
        · rename_i id hx
          split at h
          · rename_i tt e l hb
            split at h
            · rename_i t ht
              split at h
              · rename_i el hu; exact ⟨_, h, fun g gB S => ok_len hop hc hargs ht (hP ▸ hu) (.inr ⟨id, tt, e, l, S.sv hx (by simp), .inl (S.b _ _ hb), rfl⟩) hd⟩
              · cases h
            · cases h
          · rename_i e l hb
            split at h
            · rename_i t ht
              split at h
              · rename_i el hu; exact ⟨_, h, fun g gB S => ok_len hop hc hargs ht (hP ▸ hu) (.inr ⟨id, 0, e, l, S.sv hx (by simp), .inr (S.b _ _ hb), rfl⟩) hd⟩
              · cases h
            · cases h
          · cases h
        · exact dflt h
      · cases h
    · rename_i hc
      split at h
      · rename_i d hdst
        split at h
        · rename_i hb
          split at h
          · rename_i x y t t' hargs htys
            split at h
            · rename_i el htt hu
              have htt := beq_iff.1 htt
              subst htt
              split at h
              · rename_i e he
                split at h
                · rename_i id id' t1 te l l' hab
                  split at h
                  · rename_i q1
                    split at h
                    · rename_i q2; exact ⟨_, h, fun g gB S => ok_appR hop hc hargs htys hdst (hd d hdst) (S.d d hdst hb) (hP ▸ hu) (hP ▸ he) (S.appB hab) (beq_iff.1 q1) q2⟩
                    · cases h
                  · cases h
                split at h
                · rename_i e' m hy
                  split at h
                  · rename_i hee
                    subst hee
                    split at h
                    · rename_i id hx
                      split at h
                      · rename_i t'' e'' l hbx
                        split at h
                        · rename_i hee'
                          subst hee'
                          split at h
                          · rename_i hte
                            have hte := beq_iff.1 hte
                            subst hte
                            split at h
                            · rename_i h47; exact ⟨_, h, fun g gB S => ok_append hop hc hargs htys hdst (hd d hdst) (S.d d hdst hb) (hP ▸ hu) (hP ▸ he) (S.exN hy) h47 (.inr ⟨id, S.sv hx (by simp), S.b _ _ hbx, rfl⟩)⟩
                            · cases h
                          · cases h
                        · cases h
                      · cases h
                    · rename_i hx
                      split at h
                      · rename_i h47
                        exact ⟨_, h, fun g gB S => ok_append (l := []) hop hc hargs htys hdst (hd d hdst) (S.d d hdst hb) (hP ▸ hu) (hP ▸ he) (S.exN hy) (by simpa using h47) (.inl ⟨S.sv hx (by simp), rfl, rfl⟩)⟩
                      · cases h
                    · cases h
                  · cases h
                · cases h
              · cases h
            · cases h
          · cases h
        · cases h
      · cases h
    · rename_i f hc
      split at h
      · rename_i hrr
        split at h
        · rename_i x hx
          split at h
          · rename_i id hs
            split at h
            · rename_i t e l hbx
              split at h
              · rename_i d hdst
                split at h
                · rename_i hb
                  obtain ⟨H, b', hF, hH, hK⟩ := hC.rr _ _ _ _ hrr h
                  exact ⟨_, hK, fun g gB S => ok_callR hop hc hx hF hH hdst (hd d hdst) (S.d d hdst hb) (S.sv hs (by simp)) (S.b _ _ hbx)⟩
                · cases h
              · cases h
            · cases h
          · cases h
        · cases h
      rename_i hrr
      split at h
      · rename_i sk hsk
        split at h
        · rename_i x xs hx
          split at h
          · rename_i id b hst
            split at h
            · rename_i as bs pl hargs
              obtain ⟨H, rt, b', hF, hH, hK⟩ := hC.st _ _ _ _ _ _ hsk h
              split at hK
              · rename_i bo hout
                have key : ∀ (g : Nat → SV) (gB : Nat → Option (Option Box)), Sub gr gBr g gB o → ((argsF g gB xs = some (as, bs) ∧ getB bs id = none) ∨ (bs = [] ∧ Ev.args g (Ev.hid gB id) xs = some as)) ∧ ((plainB b' = true ∧ plainR rt = true ∧ bo = []) ∨ (argsF g gB xs = some (as, bs) ∧ getB bs id = none ∧ bo = bs)) := fun g gB S => by
                  rcases S.argsS hargs with ⟨a1, a2, a3⟩ | ⟨a1, a2, a3⟩
                  · exact ⟨.inl ⟨a1, a2⟩, (outS_ok hout).imp (fun h => h) fun h => ⟨a1, a2, h.2⟩⟩
                  · exact ⟨.inr ⟨a1, a3⟩, (outS_ok hout).imp (fun h => h) fun h => by rw [a2] at h; cases h.1⟩
                split at hK
                · rename_i y
                  exact ⟨_, hK, fun g gB S => ok_callS hop hc hF hH hd hx (S.stA hst) (key g gB S).1 (key g gB S).2 (.inl ⟨_, rfl, rfl⟩) (outS_nv hout)⟩
                · rename_i ys
                  exact ⟨_, hK, fun g gB S => ok_callS hop hc hF hH hd hx (S.stA hst) (key g gB S).1 (key g gB S).2 (.inr (.inl ⟨_, rfl, rfl⟩)) (outS_nv hout)⟩
                · rename_i t e l
                  split at hK
                  · rename_i d hdst
                    split at hK
                    · rename_i hb
                      split at hK
                      · rename_i hb2; exact ⟨_, hK, fun g gB S => ok_callS hop hc hF hH hd hx (S.stA hst) (key g gB S).1 (key g gB S).2 (.inr (.inr ⟨_, _, _, _, rfl, hdst, S.d d hdst hb, hb2, rfl⟩)) (outS_nv hout)⟩
                      · cases hK
                    · cases hK
                  · cases hK
                · cases hK
                · cases hK
                · cases hK
              · cases hK
            · cases h
          · cases h
        · cases h
      · rename_i hsk
        split at h
        · rename_i hnd
          split at h
          · rename_i x y z d hargs hdst
            split at h
            · rename_i p t1 i1 t2 i2 hb hp h1 h2
              split at h
              · rename_i gs hgs
                exact ⟨_, h, fun g gB S => ok_callN hop hc (hC.nd _ hnd) hd hargs hdst (S.d d hdst hb) (S.plA hp) (S.ndA h1) (S.ndA h2) hgs⟩
              · cases h
            · cases h
          · cases h
        rename_i hnd
        split at h
        · rename_i as bs hargs
          obtain ⟨G, rt, hF, hG, hK⟩ := hC.fn _ _ _ _ h
          split at hK
          · rename_i a
            split at hK
            · rename_i hp; exact ⟨_, hK, fun g gB S => ok_call hop ⟨_, hc, rfl⟩ hF hG hd (.inl (sub_argsF S _ _ hargs)) (.inl ⟨_, rfl, .inl ⟨hp, rfl⟩⟩)⟩
            · exact ⟨_, hK, fun g gB S => ok_call hop ⟨_, hc, rfl⟩ hF hG hd (.inl (sub_argsF S _ _ hargs)) (.inl ⟨_, rfl, .inr ⟨sub_argsF S _ _ hargs, rfl⟩⟩)⟩
          · rename_i xs
            split at hK
            · rename_i hp; exact ⟨_, hK, fun g gB S => ok_call hop ⟨_, hc, rfl⟩ hF hG hd (.inl (sub_argsF S _ _ hargs)) (.inr (.inl ⟨_, rfl, .inl ⟨hp, rfl⟩⟩))⟩
            · exact ⟨_, hK, fun g gB S => ok_call hop ⟨_, hc, rfl⟩ hF hG hd (.inl (sub_argsF S _ _ hargs)) (.inr (.inl ⟨_, rfl, .inr ⟨sub_argsF S _ _ hargs, rfl⟩⟩))⟩
          · rename_i t e l
            split at hK
            · rename_i d hdst
              split at hK
              · rename_i hb hpe; exact ⟨_, hK, fun g gB S => ok_call hop ⟨_, hc, rfl⟩ hF hG hd (.inl (sub_argsF S _ _ hargs)) (.inr (.inr (.inr (.inl ⟨t, e, l, d, rfl, hpe, hdst, S.d d hdst hb, rfl⟩))))⟩
              · rename_i hb hpe; exact ⟨_, hK, fun g gB S => ok_call hop ⟨_, hc, rfl⟩ hF hG hd (.inl (sub_argsF S _ _ hargs)) (.inr (.inr (.inl ⟨t, e, l, d, rfl, sub_argsF S _ _ hargs, hdst, S.d d hdst hb, rfl⟩)))⟩
              · cases hK
            · cases hK
          · rename_i xs
            split at hK
            · rename_i d hdst
              split at hK
              · rename_i hb; exact ⟨_, hK, fun g gB S => ok_call hop ⟨_, hc, rfl⟩ hF hG hd (.inl (sub_argsF S _ _ hargs)) (.inr (.inr (.inr (.inr ⟨xs, d, rfl, sub_argsF S _ _ hargs, hdst, S.d d hdst hb, rfl⟩))))⟩
              · cases hK
            · cases hK
          · split at hK
            · rename_i d hdst
              split at hK
              · rename_i hb; exact ⟨_, hK, fun g gB S => ok_callD hop hc hF hG hd (.inl (sub_argsF S _ _ hargs)) hdst (S.d d hdst hb)⟩
              · cases hK
            · cases hK
          · split at hK
            · rename_i d hdst
              split at hK
              · rename_i hb; exact ⟨_, hK, fun g gB S => ok_callRs hop hc hF hG hd (.inl (sub_argsF S _ _ hargs)) hdst (S.d d hdst hb)⟩
              · cases hK
            · cases hK
        · split at h
          · rename_i as hargs
            obtain ⟨G, rt, hF, hG, hK⟩ := hC.fn _ _ _ _ h
            split at hK
            · rename_i a
              split at hK
              · rename_i hp; exact ⟨_, hK, fun g gB S => ok_call (bs := []) hop ⟨_, hc, rfl⟩ hF hG hd (.inr ⟨rfl, S.args _ _ hargs⟩) (.inl ⟨_, rfl, .inl ⟨hp, rfl⟩⟩)⟩
              · cases hK
            · rename_i xs
              split at hK
              · rename_i hp; exact ⟨_, hK, fun g gB S => ok_call (bs := []) hop ⟨_, hc, rfl⟩ hF hG hd (.inr ⟨rfl, S.args _ _ hargs⟩) (.inr (.inl ⟨_, rfl, .inl ⟨hp, rfl⟩⟩))⟩
              · cases hK
            · rename_i t e l
              split at hK
              · rename_i d hdst
                split at hK
                · rename_i hb hpe; exact ⟨_, hK, fun g gB S => ok_call (bs := []) hop ⟨_, hc, rfl⟩ hF hG hd (.inr ⟨rfl, S.args _ _ hargs⟩) (.inr (.inr (.inr (.inl ⟨t, e, l, d, rfl, hpe, hdst, S.d d hdst hb, rfl⟩))))⟩
                · cases hK
              · cases hK
            · cases hK
            · split at hK
              · rename_i d hdst
                split at hK
                · rename_i hb; exact ⟨_, hK, fun g gB S => ok_callD (bs := []) hop hc hF hG hd (.inr (S.args _ _ hargs)) hdst (S.d d hdst hb)⟩
                · cases hK
              · cases hK
            · split at hK
              · rename_i d hdst
                split at hK
                · rename_i hb; exact ⟨_, hK, fun g gB S => ok_callRs (bs := []) hop hc hF hG hd (.inr (S.args _ _ hargs)) hdst (S.d d hdst hb)⟩
                · cases hK
              · cases hK
          · cases h
    · rename_i t hc
      split at h
      · rename_i f hf
        have hx : sv gr (.tmp t) = .p (.v (.func (.func f) #[] #[])) := by
          unfold fnv at hf
          split at hf
          · rename_i hs; cases hf; exact hs
          · cases hf
        split at h
        · rename_i as bs hst hargs
          obtain ⟨G, rt, hF, hG, hK⟩ := hC.fn _ _ _ _ h
          split at hK
          · rename_i a
            split at hK
            · rename_i hp; exact ⟨_, hK, fun g gB S => ok_call hop ⟨_, hc, S.sv hx (by simp)⟩ hF hG hd (.inl (sub_argsF S _ _ hargs)) (.inl ⟨_, rfl, .inl ⟨hp, rfl⟩⟩)⟩
            · cases hK
          · cases hK
        · cases h
      · cases h
    · exact dflt h
  case h_23 => exact dflt h
end
end Go.Proofs.YtalkkenkeilmpaaGreat.Ev
