/- A function's contract out of what the evaluator tells of it. -/
import Derived.Test.YtalkkenkeilmpaaGreatEv14
namespace Go.Proofs.YtalkkenkeilmpaaGreat.Ev
open Go Go.RowKit
set_option linter.unusedVariables false
set_option linter.unusedSimpArgs false

section
variable {P : Program} {N : Nat}

def resV (tmps : Array Value) : ResultVar → Sem Value
  | .tmp t => pure (tmps.getD t undef)
  | .cell a t => do loadVar t (← asAddr (tmps.getD a undef))
theorem results_eq (fn : Func) (tmps : Array Value) : results fn tmps = (do let vs ← fn.results.mapM (resV tmps); pure (if h : vs.size = 1 then vs[0] else .tuple vs)) := by
  unfold results
  congr 1
theorem run_results {P : Program} {fn : Func} {tmps : Array Value} {w : World} {vs : List Value} (hn : fn.results.toList.length = vs.length)
    (h : ∀ (i : Nat) (r : ResultVar) (v : Value), fn.results.toList[i]? = some r → vs[i]? = some v → (resV tmps r).run P w = .ok v w) :
    (results fn tmps).run P w = .ok (if h : vs.length = 1 then vs[0] else .tuple vs.toArray) w := by
  have key : ∀ (l : List ResultVar) (vs : List Value), l.length = vs.length → (∀ (i : Nat) (r : ResultVar) (v : Value), l[i]? = some r → vs[i]? = some v → (resV tmps r).run P w = .ok v w) → (l.mapM (resV tmps)).run P w = .ok vs w := by
    intro l
    induction l with
    | nil =>
      intro vs hn _
      have : vs = [] := List.eq_nil_of_length_eq_zero hn.symm
      subst this; rfl
    | cons r l ih =>
      intro vs hn h
      cases vs with
      | nil => simp at hn
      | cons v vs =>
        rw [List.mapM_cons, run_bind_ok (h 0 r v rfl rfl), run_bind_ok (ih vs (by simpa using hn) fun i r' v' h1 h2 => h (i + 1) r' v' (by simpa using h1) (by simpa using h2))]
        rfl
  have := key fn.results.toList vs hn h
  rw [results_eq, Array.mapM_eq_mapM_toList]
  rw [run_bind_ok (x := vs.toArray) (w' := w) (by
    show (Sem.run P (Sem.bind _ _) w) = _
    exact run_bind_ok (s := fn.results.toList.mapM (resV tmps)) (f := fun a => pure (List.toArray a)) this)]
  simp only [Sem.run_pure, List.size_toArray]
  split
  · rename_i h1; simp [h1]
  · rename_i h1; simp [h1]

theorem own_rebase {w : World} {b e sz n : Nat} {v : Value} {xs : List Value} (h : ownsW w 0 e sz v n xs) (hb : ∀ k, v.ownBlock = some k → b ≤ k) : ownsW w b e sz v n xs :=
  ⟨h.1, h.2.imp id fun ⟨g, cap, cur, h1, h2, r⟩ => ⟨g, cap, cur, h1, hb g (by rw [h1]; rfl), r⟩⟩

variable {ρ : Type} {cx : Cx ρ}

theorem ret1_ok (hP : cx.P = P) {w0 : Base} {st : S2} {a : Act} {w : World} {ro : Nat → Prop} {β : Nat → Option Blk} (hR : R0 w0 N (get st.1) (getB st.2) a w ro β) (hex : ∀ b, ¬ w0.ex b) {r : ResultVar} {y : AV} (h : ret1 cx st r = some y) :
    ∃ v, (resV a.tmps r).run P w = .ok v w ∧ Rep w (fresh w0.w w w0.A) v y := by
  have hup : ∀ b, ro b → fresh w0.w w w0.A b := fun b hb => (hR.roUp b hb).imp id fun h1 => ⟨h1.resolve_right (hex b), hR.roLt b hb⟩
  unfold ret1 at h
  split at h
  · rename_i t
    split at h
    · rename_i aa hg
      cases h
      have := hR.slots t
      rw [hg] at this
      exact ⟨_, rfl, Rep.mono hup (fun _ _ => rfl) this⟩
    · rename_i id hg
      split at h
      · rename_i tt e l hb
        cases h
        have h1 := hR.slots t
        rw [hg] at h1
        obtain ⟨k, hk, hv⟩ := h1
        obtain ⟨k', hk', hrep, ho⟩ := hR.box id _ hb
        rw [hk] at hk'; cases hk'
        refine ⟨_, rfl, ?_⟩
        rw [hv]
        exact rep_row hR.roLt hrep hup (fun b hb => .inr ⟨(ho b hb).1.resolve_right (hex b), hR.βLt id k b .one hk hb⟩)
      · rename_i e l hb
        cases h
        have h1 := hR.slots t
        rw [hg] at h1
        obtain ⟨k, hk, hv⟩ := h1
        obtain ⟨k', hk', hrep, ho⟩ := hR.box id _ hb
        rw [hk] at hk'; cases hk'
        refine ⟨_, rfl, ?_⟩
        rw [hv]
        exact Rep.mono hup (fun _ _ => rfl) (show Rep w ro k.v (.sl e l) from hrep)
      · cases h
    · cases h
  · rename_i x t
    split at h
    · rename_i id off hg
      split at h
      · rename_i xs hb
        have h1 := hR.slots x
        rw [hg] at h1
        obtain ⟨k, b, hk, hkb, hv⟩ := h1
        obtain ⟨k', hk', ⟨b', c, tt, hb', hheap, hsz, hcells⟩, _⟩ := hR.box id _ hb
        rw [hk] at hk'; cases hk'
        rw [hkb] at hb'; cases hb'
        obtain ⟨v, hv', hr⟩ := ldv_ok (w := w) (ro := ro) (a := ⟨b, off, none⟩) hP h rfl (fun i y hy => by
          rw [List.getElem?_drop] at hy
          obtain ⟨z, hz, hrz⟩ := hcells _ _ hy
          exact ⟨z, by simp [World.cell?, hheap, hz], hrz⟩)
        refine ⟨v, ?_, hr.mono hup (fun _ _ => rfl)⟩
        simp only [resV]
        rw [hv, run_bind_ok (x := (⟨b, off, none⟩ : Addr)) (w' := w) rfl]
        exact hv'
      · cases h
    · cases h

theorem retL_ok (hP : cx.P = P) {w0 : Base} {st : S2} {a : Act} {w : World} {ro : Nat → Prop} {β : Nat → Option Blk} (hR : R0 w0 N (get st.1) (getB st.2) a w ro β) (hex : ∀ b, ¬ w0.ex b) : ∀ (rs : List ResultVar) (l : List AV), retL cx st rs = some l →
    ∃ vs : List Value, rs.length = vs.length ∧ l.length = vs.length ∧ (∀ (i : Nat) (r : ResultVar) (v : Value), rs[i]? = some r → vs[i]? = some v → (resV a.tmps r).run P w = .ok v w) ∧
      ∀ (i : Nat) (v : Value) (y : AV), vs[i]? = some v → l[i]? = some y → Rep w (fresh w0.w w w0.A) v y
  | [], l, h => by simp [retL] at h; subst h; exact ⟨[], rfl, rfl, fun i r v h => by simp at h, fun i v y h => by simp at h⟩
  | r :: rs, l, h => by
    simp only [retL] at h
    split at h
    · rename_i y hy
      split at h
      · rename_i l' hl
        cases h
        obtain ⟨v, h1, h2⟩ := ret1_ok hP hR hex hy
        obtain ⟨vs, g1, g2, g3, g4⟩ := retL_ok hP hR hex rs l' hl
        refine ⟨v :: vs, by simp [g1], by simp [g2], fun i r' v' e1 e2 => ?_, fun i v' y' e1 e2 => ?_⟩
        · cases i with
          | zero => simp at e1 e2; subst e1 e2; exact h1
          | succ i => simp at e1 e2; exact g3 i r' v' e1 e2
        · cases i with
          | zero => simp at e1 e2; subst e1 e2; exact h2
          | succ i => simp at e1 e2; exact g4 i v' y' e1 e2
      · cases h
    · cases h

theorem dep1_ok (hP : cx.P = P) {w0 : Base} {st : S2} {a : Act} {w : World} {ro : Nat → Prop} {β : Nat → Option Blk} (hR : R0 w0 N (get st.1) (getB st.2) a w ro β) (hex : ∀ b, ¬ w0.ex b) {r : ResultVar} {xs : List Value} {l : List Tree} (h : dep1 cx st r = some (xs, l)) :
    ∃ fp kv, (resV a.tmps r).run P w = .ok (.agg (xs ++ [kv]).toArray) w ∧ OwnK w fp kv l ∧ fp.Nodup ∧ ∀ b ∈ fp, w0.heap.size ≤ b ∧ b < w.heap.size := by
  have kid : ∀ (id : Nat) (k : Blk) (l : List Tree), getB st.2 id = some (some (.kids l)) → β id = some k → OwnK w k.fp k.v l ∧ k.fp.Nodup ∧ ∀ b ∈ k.fp, w0.heap.size ≤ b ∧ b < w.heap.size := fun id k l hb hk => by
    obtain ⟨k', hk', hrep, ho⟩ := hR.box id _ hb
    rw [hk] at hk'; cases hk'
    exact ⟨hrep.1, hrep.2, fun b hb' => ⟨(ho b hb').1.resolve_right (hex b), hR.βLt id k b .deep hk hb'⟩⟩
  subst hP
  unfold dep1 at h
  split at h
  · rename_i t
    split at h
    · rename_i id ys hg
      split at h
      · rename_i l' hb
        cases h
        have h1 := hR.slots t
        rw [hg] at h1
        obtain ⟨k, hk, hv⟩ := h1
        obtain ⟨q1, q2, q3⟩ := kid id k l hb hk
        exact ⟨k.fp, k.v, by rw [← hv]; rfl, q1, q2, q3⟩
      · cases h
    · cases h
  · rename_i x t
    split at h
    · rename_i id off hg
      split at h
      · rename_i kid' ys hb
        split at h
        · rename_i l' n hbk h0 hag hn
          split at h
          · rename_i hl
            cases h
            have h0 := beq_iff.1 h0; subst h0
            have hl := beq_iff.1 hl
            have h1 := hR.slots x
            rw [hg] at h1
            obtain ⟨k, b, hk, hkb, hv⟩ := h1
            obtain ⟨k', hk', hrep, _⟩ := hR.box id _ hb
            rw [hk] at hk'; cases hk'
            have hc := vq_cells hrep hkb
            obtain ⟨k1, k2, e1, e2, e3⟩ := hR.lnk id kid' xs hb
            rw [hk] at e1; cases e1
            obtain ⟨q1, q2, q3⟩ := kid kid' k2 l hbk e2
            refine ⟨k2.fp, k2.v, ?_, q1, q2, q3⟩
            have hcell : ∀ i, i < n → w.cell? ((⟨b, 0, none⟩ : Addr).add i) = some (((xs ++ [k.lk])[i]?).getD undef) := fun i hi => by
              rw [addr_add rfl, Nat.zero_add, hc i, List.getElem?_eq_getElem (show i < (xs ++ [k.lk]).length by simp; omega)]; rfl
            simp only [resV]
            rw [hv, run_bind_ok (x := (⟨b, 0, none⟩ : Addr)) (w' := w) rfl]
            unfold loadVar
            rw [run_bind_ok (pr_agg hag w)]
            simp only [if_true]
            rw [run_bind_ok (pr_size hn w), run_bind_ok (run_loadCells w ⟨b, 0, none⟩ n _ hcell)]
            have e4 : (List.range n).map (fun i => ((xs ++ [k.lk])[i]?).getD undef) = xs ++ [k2.v] := by
              rw [← e3]
              apply List.ext_getElem?
              intro i
              rw [List.getElem?_map]
              by_cases hi : i < n
              · rw [List.getElem?_range hi, Option.map_some, List.getElem?_eq_getElem (show i < (xs ++ [k.lk]).length by simp; omega)]; rfl
              · rw [List.getElem?_eq_none (by simp; omega), List.getElem?_eq_none (by simp; omega)]; rfl
            simp only [e4]
            rfl
          · cases h
        · cases h
      · cases h
    · cases h
theorem depR_ok (hP : cx.P = P) {w0 : Base} {st : S2} {a : Act} {w : World} {ro : Nat → Prop} {β : Nat → Option Blk} (hR : R0 w0 N (get st.1) (getB st.2) a w ro β) (hex : ∀ b, ¬ w0.ex b) {fn : Func} {rt : Rt} (h : depR cx st fn.results.toList = some rt) :
    ∃ v, (results fn a.tmps).run P w = .ok v w ∧ RetRep w0.w w w0.A v rt := by
  unfold depR at h
  split at h
  · rename_i r heq
    split at h
    · rename_i xs l h1
      cases h
      obtain ⟨fp, kv, q1, q2, q3, q4⟩ := dep1_ok hP hR hex h1
      refine ⟨_, ?_, fp, kv, rfl, q2, q3, q4⟩
      have := run_results (P := P) (fn := fn) (tmps := a.tmps) (w := w) (vs := [.agg (xs ++ [kv]).toArray]) (by rw [heq]; rfl) (fun i r' v' e1 e2 => by
        rw [heq] at e1
        cases i with
        | zero => simp at e1 e2; subst e1 e2; simpa using q1
        | succ i => simp at e1)
      simpa [dpV] using this
    · cases h
  · rename_i r r2 heq
    split at h
    · rename_i xs l y h1 h2
      cases h
      obtain ⟨fp, kv, q1, q2, q3, q4⟩ := dep1_ok hP hR hex h1
      obtain ⟨v2, q5, q6⟩ := ret1_ok hP hR hex h2
      have := rep_v_inv q6; subst this
      refine ⟨_, ?_, fp, kv, rfl, q2, q3, q4⟩
      have := run_results (P := P) (fn := fn) (tmps := a.tmps) (w := w) (vs := [.agg (xs ++ [kv]).toArray, v2]) (by rw [heq]; rfl) (fun i r' v' e1 e2 => by
        rw [heq] at e1
        match i with
        | 0 => simp at e1 e2; subst e1 e2; simpa using q1
        | 1 => simp at e1 e2; subst e1 e2; exact q5
        | i + 2 => simp at e1)
      simpa [dpV] using this
    · cases h
  · cases h
theorem evRet_ok (hP : cx.P = P) {w0 : Base} {st : S2} {a : Act} {w : World} {ro : Nat → Prop} {β : Nat → Option Blk} (hR : R0 w0 N (get st.1) (getB st.2) a w ro β) (hex : ∀ b, ¬ w0.ex b) {fn : Func} {rt : Rt} (h : evRet cx st fn.results.toList = some rt) :
    ∃ v, (results fn a.tmps).run P w = .ok v w ∧ RetRep w0.w w w0.A v rt := by
  have hup : ∀ b, ro b → fresh w0.w w w0.A b := fun b hb => (hR.roUp b hb).imp id fun h1 => ⟨h1.resolve_right (hex b), hR.roLt b hb⟩
  have one : ∀ (r : ResultVar) (y : AV), fn.results.toList = [r] → ret1 cx st r = some y → ∃ v, (results fn a.tmps).run P w = .ok v w ∧ Rep w (fresh w0.w w w0.A) v y := fun r y hr hy => by
    obtain ⟨v, h1, h2⟩ := ret1_ok hP hR hex hy
    refine ⟨v, ?_, h2⟩
    have := run_results (P := P) (fn := fn) (tmps := a.tmps) (w := w) (vs := [v]) (by rw [hr]; rfl) (fun i r' v' e1 e2 => by
      rw [hr] at e1
      cases i with
      | zero => simp at e1 e2; subst e1 e2; exact h1
      | succ i => simp at e1)
    simpa using this
  unfold evRet at h
  split at h
  · rename_i rt' hdp
    cases h
    exact depR_ok hP hR hex hdp
  unfold evRet0 at h
  split at h
  · rename_i t heq
    split at h
    · rename_i aa hg
      cases h
      exact one _ _ heq (by simp only [ret1, hg])
    · rename_i id hg
      split at h
      · rename_i tt e l hb
        cases h
        have h1 := hR.slots t
        rw [hg] at h1
        obtain ⟨k, hk, hv⟩ := h1
        obtain ⟨k', hk', ⟨htt, hz, hn, hown, xs, hrow, hcells⟩, ho⟩ := hR.box id _ hb
        rw [hk] at hk'; cases hk'
        refine ⟨a.tmps.getD t undef, ?_, xs, ?_, fun j c hj hc => ?_⟩
        · have := run_results (P := P) (fn := fn) (tmps := a.tmps) (w := w) (vs := [a.tmps.getD t undef]) (by rw [heq]; rfl) (fun i r' v' e1 e2 => by
            rw [heq] at e1
            cases i with
            | zero => simp at e1 e2; subst e1 e2; simp [resV]
            | succ i => simp at e1)
          simpa using this
        · rw [hv, ← htt, ← hn]
          exact own_rebase hrow fun b hb => (ho b (hown.trans hb)).1.resolve_right (hex b)
        · obtain ⟨u, hu, hr⟩ := hcells j c hj hc
          refine ⟨u, hu, hr.mono (fun b hb => ⟨hup b hb, fun e => ?_⟩) (fun _ _ => rfl)⟩
          rw [hv] at e
          exact (ho b (hown.trans e)).2 hb
      · rename_i e l hb
        cases h
        exact one _ _ heq (by simp only [ret1, hg, hb])
      · rename_i tt te l hb
        cases h
        have h1 := hR.slots t
        rw [hg] at h1
        obtain ⟨k, hk, hv⟩ := h1
        obtain ⟨k', hk', hrep, ho⟩ := hR.box id _ hb
        rw [hk] at hk'; cases hk'
        refine ⟨a.tmps.getD t undef, ?_, k.fp, by rw [hv]; exact hrep.1, hrep.2, fun b hb' => ⟨(ho b hb').1.resolve_right (hex b), hR.βLt id k b .deep hk hb'⟩⟩
        have := run_results (P := P) (fn := fn) (tmps := a.tmps) (w := w) (vs := [a.tmps.getD t undef]) (by rw [heq]; rfl) (fun i r' v' e1 e2 => by
          rw [heq] at e1
          cases i with
          | zero => simp at e1 e2; subst e1 e2; simp [resV]
          | succ i => simp at e1)
        simpa using this
      · cases h
    · rename_i id off hg
      split at h
      · rename_i xs hb
        split at h
        · rename_i h0
          have h0 := beq_iff.1 h0
          subst h0
          cases h
          have h1 := hR.slots t
          rw [hg] at h1
          obtain ⟨k, b, hk, hkb, hv⟩ := h1
          obtain ⟨k', hk', ⟨b', c, tt, hb', hheap, hsz, hcells⟩, ho⟩ := hR.box id _ hb
          rw [hk] at hk'; cases hk'
          rw [hkb] at hb'; cases hb'
          refine ⟨a.tmps.getD t undef, ?_, b, c, tt, hv, (ho b hkb).1.resolve_right (hex b), hR.βLt id k b .one hk hkb, hheap, hsz, fun i y hy => ?_⟩
          · have := run_results (P := P) (fn := fn) (tmps := a.tmps) (w := w) (vs := [a.tmps.getD t undef]) (by rw [heq]; rfl) (fun i r' v' e1 e2 => by
              rw [heq] at e1
              cases i with
              | zero => simp at e1 e2; subst e1 e2; simp [resV]
              | succ i => simp at e1)
            simpa using this
          · obtain ⟨u, hu, hr⟩ := hcells i y hy
            exact ⟨u, hu, hr.mono (fun b2 hb2 => ⟨hup b2 hb2, fun e => (ho b hkb).2 (e ▸ hb2)⟩) (fun _ _ => rfl)⟩
        · cases h
      · cases h
    · cases h
  · rename_i r _ heq
    split at h
    · rename_i y hy; cases h; exact one _ _ heq hy
    · cases h
  · rename_i h1 h2
    split at h
    · rename_i l hl
      cases h
      obtain ⟨vs, g1, g2, g3, g4⟩ := retL_ok hP hR hex _ _ hl
      have := run_results (P := P) (fn := fn) (tmps := a.tmps) (w := w) (vs := vs) g1 g3
      have hne : ¬ vs.length = 1 := fun e => by
        rw [← g1] at e
        obtain ⟨r, hr⟩ := List.length_eq_one_iff.1 e
        exact h2 r hr
      rw [dif_neg hne] at this
      exact ⟨_, this, vs.toArray, rfl, by simp [g2], fun i u y e1 e2 => g4 i u y (by simpa using e1) e2⟩
    · cases h

theorem get_init : ∀ (as : List AV) (i s : Nat), get (initEnv i as) s = if i ≤ s then (match as[s - i]? with | some y => entry y | none => .dead) else .dead
  | [], i, s => by simp [initEnv, get]
  | a :: as, i, s => by
    simp only [initEnv, get]
    rcases Bool.eq_false_or_eq_true (Nat.beq i s) with hb | hb
    · have := beq_iff.1 hb; subst this; simp [hb]
    · have hne : i ≠ s := fun e => by rw [beq_iff.2 e] at hb; cases hb
      simp only [hb]
      rw [get_init as (i + 1) s]
      by_cases h : i + 1 ≤ s
      · rw [if_pos h, if_pos (by omega)]
        rw [show s - i = (s - (i + 1)) + 1 by omega, List.getElem?_cons_succ]
      · rw [if_neg h, if_neg (by omega)]

theorem rep_entry {w : World} {ro : Nat → Prop} {β : Nat → Option Blk} {v : Value} {y : AV} (h : Rep w ro v y) : RepS w ro β v (entry y) := by
  cases h with
  | pt ad ys vals hs hr hc hh => exact ⟨ad, rfl, hs, hr, fun i y hy => ⟨vals i, hc i (List.getElem?_eq_some_iff.1 hy).1, hh i y hy⟩⟩
  | v => exact Rep.v _
  | agg xs ys hn hh => exact Rep.agg xs ys hn hh
  | sl A cap e l vals hcap hnil hA hh => exact Rep.sl A cap e l vals hcap hnil hA hh

/-- a function whose calls are told by 'F'. -/
theorem fun_ok (hm : P.follows .mixedOrders = true) {fid : Nat} {fn : Func} {body : Code} (hf : P.funcs[fid]? = some fn) (hcan : callable P fid = true) (hb : fn.body = some body) (hd : dstOk fn.ntmps body = true)
    {cs : List (Nat × CE)} {ls : List (Nat × LE)} (hC : AllFun P cs) (hL : ∀ b ∈ loopsOf body, ∃ l, findL ls (firstRegion b) = some l ∧ LoopTo P fn.ntmps l b) (F : FE) (hlen : ∀ a, (F.args.enc a).length ≤ fn.ntmps)
    (hlink : ∀ a b, F.f a = some b → evFun (mkCx P cs ls : Cx F.β) fn (F.args.enc a) F.ret.dec = some b) : Fun P fid F.G := by
  refine ⟨hcan, fun as rt hG vs w A hA hn hrep => ?_⟩
  unfold FE.G at hG
  split at hG
  · rename_i a ha
    split at hG
    · rename_i b hb'
      cases hG
      obtain ⟨hr1, hr2⟩ := F.args.ok as a ha
      have hl := hlink a b hb'
      unfold evFun at hl
      rw [hb] at hl
      simp only at hl
      obtain ⟨e, st', hK, hto⟩ := evCode_ok rfl hm (callsOk hC) body _ _ hd (loopsOk_of body hL) hl
      have hsz : vs.size ≤ fn.ntmps := by rw [hn, hr1]; exact hlen a
      refine calls_of_wp hf hb (hto ⟨w, fun _ => False, A, none⟩ _ w _ ⟨A, fun _ => none, ⟨⟨rfl, rfl, rfl, Nat.le_refl _, fun _ _ _ => rfl, Nat.le_refl _⟩, fun s => ?_, fun id x hx => by simp [getB] at hx, fun id id' x x' bb k k' hx => by simp [getB] at hx, fun _ _ => rfl, fun b hb => .inl hb, hA, fun id k b q hk => (by cases hk), rfl, ?_, fun _ h => (by cases h), fun _ _ _ hx => by simp [getB] at hx⟩⟩ fun a' w' hR' => ?_)
      · rw [get_init]
        simp only [Nat.zero_le, if_true, Nat.sub_zero]
        cases hy : (F.args.enc a)[s]? with
        | none => trivial
        | some y =>
          have hs : s < vs.size := by rw [hn, hr1]; exact (List.getElem?_eq_some_iff.1 hy).1
          have hs2 : s < as.length := by omega
          have h1 : (vs ++ Array.replicate (fn.ntmps - vs.size) undef).getD s undef = vs[s] := by
            simp [Array.getElem?_append, hs]
          show RepS w A _ ((vs ++ Array.replicate (fn.ntmps - vs.size) undef).getD s undef) (entry y)
          rw [h1]
          exact rep_entry (hr2 s _ y (List.getElem?_eq_getElem hs2) hy w A _ (hrep s _ _ (by simp [hs]) (List.getElem?_eq_getElem hs2)))
      · simp; omega
      · obtain ⟨ro, β, hR'⟩ := hR'
        have fin : ∀ rt, evRet (mkCx P cs ls : Cx F.β) st' fn.results.toList = some rt → F.ret.dec rt = some b → a'.defers = [] ∧ ∃ v, (results fn a'.tmps).run P w' = .ok v w' ∧ ∃ v', Ending.returned v = .returned v' ∧ BelowD w w' ∧ RetRep w w' A v' (F.ret.enc b) := fun rt h1 h2 => by
          obtain ⟨v, hv, hret⟩ := evRet_ok (P := P) rfl hR' (fun _ h => h) h1
          exact ⟨hR'.defers, v, hv, v, rfl, ⟨⟨hR'.below.os, hR'.below.tape, hR'.below.output, hR'.below.size, fun k hk => hR'.below.block k hk (fun h => h)⟩, hR'.below.drawn⟩, F.ret.ok rt b h2 _ _ _ _ hret⟩
        cases e with
        | ret =>
          simp only at hK
          split at hK
          · rename_i rt hrt; exact fin rt hrt hK
          · cases hK
        | normal =>
          simp only at hK
          split at hK
          · rename_i rt hrt; exact fin rt hrt hK
          · cases hK
        | exit id => cases hK
        | goto l => cases hK
        | panic l => cases hK
        | outgrown => cases hK
    · cases hG
  · cases hG

theorem retS1_ok (hP : cx.P = P) {w0 : Base} {st : S2} {a : Act} {w : World} {ro : Nat → Prop} {β : Nat → Option Blk} (hR : R0 w0 N (get st.1) (getB st.2) a w ro β) {r : ResultVar} {y : AV} (h : retS1 cx st r = some y) :
    ∃ v, (resV a.tmps r).run P w = .ok v w ∧ Rep w ro v y := by
  unfold retS1 at h
  split at h
  · rename_i t
    split at h
    · rename_i aa hg
      cases h
      have := hR.slots t
      rw [hg] at this
      exact ⟨_, rfl, this⟩
    · rename_i id hg
      split at h
      · rename_i e l hb
        cases h
        have h1 := hR.slots t
        rw [hg] at h1
        obtain ⟨k, hk, hv⟩ := h1
        obtain ⟨k', hk', hrep, ho⟩ := hR.box id _ hb
        rw [hk] at hk'; cases hk'
        refine ⟨_, rfl, ?_⟩
        rw [hv]
        exact hrep
      · cases h
    · cases h
  · rename_i x t
    split at h
    · rename_i id off hg
      split at h
      · rename_i xs hb
        have h1 := hR.slots x
        rw [hg] at h1
        obtain ⟨k, b, hk, hkb, hv⟩ := h1
        obtain ⟨k', hk', ⟨b', c, tt, hb', hheap, hsz, hcells⟩, _⟩ := hR.box id _ hb
        rw [hk] at hk'; cases hk'
        rw [hkb] at hb'; cases hb'
        obtain ⟨v, hv', hr⟩ := ldv_ok (w := w) (ro := ro) (a := ⟨b, off, none⟩) hP h rfl (fun i y hy => by
          rw [List.getElem?_drop] at hy
          obtain ⟨z, hz, hrz⟩ := hcells _ _ hy
          exact ⟨z, by simp [World.cell?, hheap, hz], hrz⟩)
        refine ⟨v, ?_, hr⟩
        simp only [resV]
        rw [hv, run_bind_ok (x := (⟨b, off, none⟩ : Addr)) (w' := w) rfl]
        exact hv'
      · cases h
    · cases h

theorem retSL_ok (hP : cx.P = P) {w0 : Base} {st : S2} {a : Act} {w : World} {ro : Nat → Prop} {β : Nat → Option Blk} (hR : R0 w0 N (get st.1) (getB st.2) a w ro β) : ∀ (rs : List ResultVar) (l : List AV), retSL cx st rs = some l →
    ∃ vs : List Value, rs.length = vs.length ∧ l.length = vs.length ∧ (∀ (i : Nat) (r : ResultVar) (v : Value), rs[i]? = some r → vs[i]? = some v → (resV a.tmps r).run P w = .ok v w) ∧
      ∀ (i : Nat) (v : Value) (y : AV), vs[i]? = some v → l[i]? = some y → Rep w ro v y
  | [], l, h => by simp [retSL] at h; subst h; exact ⟨[], rfl, rfl, fun i r v h => by simp at h, fun i v y h => by simp at h⟩
  | r :: rs, l, h => by
    simp only [retSL] at h
    split at h
    · rename_i y hy
      split at h
      · rename_i l' hl
        cases h
        obtain ⟨v, h1, h2⟩ := retS1_ok hP hR hy
        obtain ⟨vs, g1, g2, g3, g4⟩ := retSL_ok hP hR rs l' hl
        refine ⟨v :: vs, by simp [g1], by simp [g2], fun i r' v' e1 e2 => ?_, fun i v' y' e1 e2 => ?_⟩
        · cases i with
          | zero => simp at e1 e2; subst e1 e2; exact h1
          | succ i => simp at e1 e2; exact g3 i r' v' e1 e2
        · cases i with
          | zero => simp at e1 e2; subst e1 e2; exact h2
          | succ i => simp at e1 e2; exact g4 i v' y' e1 e2
      · cases h
    · cases h

/-- the results beside the state 'bx'. -/
theorem evRetS_ok (hP : cx.P = P) {w0 : Base} {st : S2} {a : Act} {w : World} {ro : Nat → Prop} {β : Nat → Option Blk} (hR : R0 w0 N (get st.1) (getB st.2) a w ro β) {bx : Box} {k : Blk} (hbx : getB st.2 XID = some (some bx)) (hk : β XID = some k) (hex : ∀ b, w0.ex b → owns bx.kind k b) {fn : Func} {rt : Rt} (h : evRetS cx st fn.results.toList = some rt) :
    ∃ v, (results fn a.tmps).run P w = .ok v w ∧ RetRep w0.w w w0.A v rt ∧ ∀ b, ro b → fresh w0.w w w0.A b ∧ ¬ ownB v rt b := by
  obtain ⟨k', hk', _, hown'⟩ := hR.box XID bx hbx
  rw [hk] at hk'; cases hk'
  have hup : ∀ b, ro b → fresh w0.w w w0.A b := fun b hb => (hR.roUp b hb).imp id fun h1 => ⟨h1.resolve_right fun h2 => (hown' b (hex b h2)).2 hb, hR.roLt b hb⟩
  have one : ∀ (r : ResultVar) (y : AV), fn.results.toList = [r] → retS1 cx st r = some y → ∃ v, (results fn a.tmps).run P w = .ok v w ∧ RetRep w0.w w w0.A v (.one y) ∧ ∀ b, ro b → fresh w0.w w w0.A b ∧ ¬ ownB v (.one y) b := fun r y hr hy => by
    obtain ⟨v, h1, h2⟩ := retS1_ok hP hR hy
    refine ⟨v, ?_, h2.mono hup (fun _ _ => rfl), fun b hb => ⟨hup b hb, fun h => h⟩⟩
    have := run_results (P := P) (fn := fn) (tmps := a.tmps) (w := w) (vs := [v]) (by rw [hr]; rfl) (fun i r' v' e1 e2 => by
      rw [hr] at e1
      cases i with
      | zero => simp at e1 e2; subst e1 e2; exact h1
      | succ i => simp at e1)
    simpa using this
  unfold evRetS at h
  split at h
  · rename_i t heq
    split at h
    · rename_i id hg
      split at h
      · rename_i tt e l hb
        split at h
        · cases h
        · rename_i hne
          have hne : id ≠ XID := fun e => by rw [beq_iff.2 e] at hne; cases hne
          cases h
          have h1 := hR.slots t
          rw [hg] at h1
          obtain ⟨k2, hk2, hv⟩ := h1
          obtain ⟨k', hk', ⟨htt, hz, hn, hown, xs, hrow, hcells⟩, ho⟩ := hR.box id _ hb
          rw [hk2] at hk'; cases hk'
          have hnew : ∀ b, k2.own = some b → w0.heap.size ≤ b := fun b hb' => (ho b hb').1.resolve_right fun h2 => hne (hR.inj id XID _ _ b k2 k hb hbx hk2 hk hb' (hex b h2))
          refine ⟨a.tmps.getD t undef, ?_, ⟨xs, ?_, fun j c hj hc => ?_⟩, fun b hb' => ⟨hup b hb', fun h => ?_⟩⟩
          · have := run_results (P := P) (fn := fn) (tmps := a.tmps) (w := w) (vs := [a.tmps.getD t undef]) (by rw [heq]; rfl) (fun i r' v' e1 e2 => by
              rw [heq] at e1
              cases i with
              | zero => simp at e1 e2; subst e1 e2; simp [resV]
              | succ i => simp at e1)
            simpa using this
          · rw [hv, ← htt, ← hn]
            exact own_rebase hrow fun b hb' => hnew b (hown.trans hb')
          · obtain ⟨u, hu, hr⟩ := hcells j c hj hc
            refine ⟨u, hu, hr.mono (fun b hb => ⟨hup b hb, fun e => ?_⟩) (fun _ _ => rfl)⟩
            rw [hv] at e
            exact (ho b (hown.trans e)).2 hb
          · simp only [ownB] at h
            rw [hv] at h
            exact (ho b (hown.trans h)).2 hb'
      · rename_i e l hb
        cases h
        exact one _ _ heq (by simp only [retS1, hg, hb])
      · cases h
    · rename_i aa hg
      cases h
      exact one _ _ heq (by simp only [retS1, hg])
    · cases h
  · rename_i r _ heq
    split at h
    · rename_i y hy; cases h; exact one _ _ heq hy
    · cases h
  · rename_i h1 h2
    split at h
    · rename_i l hl
      cases h
      obtain ⟨vs, g1, g2, g3, g4⟩ := retSL_ok hP hR _ _ hl
      have := run_results (P := P) (fn := fn) (tmps := a.tmps) (w := w) (vs := vs) g1 g3
      have hne : ¬ vs.length = 1 := fun e => by
        rw [← g1] at e
        obtain ⟨r, hr⟩ := List.length_eq_one_iff.1 e
        exact h2 r hr
      rw [dif_neg hne] at this
      exact ⟨_, this, ⟨vs.toArray, rfl, by simp [g2], fun i u y e1 e2 => (g4 i u y (by simpa using e1) e2).mono hup (fun _ _ => rfl)⟩, fun b hb => ⟨hup b hb, fun h => h⟩⟩
    · cases h

/-- a function that writes into its first argument, whose calls are told by 'F'. -/
theorem fun_okS (hm : P.follows .mixedOrders = true) {fid : Nat} {fn : Func} {body : Code} (hf : P.funcs[fid]? = some fn) (hcan : callable P fid = true) (hb : fn.body = some body) (hd : dstOk fn.ntmps body = true)
    {cs : List (Nat × CE)} {ls : List (Nat × LE)} (hC : AllFun P cs) (hL : ∀ b ∈ loopsOf body, ∃ l, findL ls (firstRegion b) = some l ∧ LoopTo P fn.ntmps l b) (F : FS) (hlen : ∀ a, (F.args.enc a).length + 1 ≤ fn.ntmps) (hN : fn.ntmps ≤ XID)
    (hlink : ∀ s a b, F.f s a = some b → evFunS (mkCx P cs ls : Cx (F.β × F.σ)) fn F.sk (F.st.enc s) (F.args.enc a) F.fin = some b) (hq : F.st.lk = false := by rfl) : FunS P fid F.sk F.H := by
  refine ⟨hcan, fun bx as rt bx' hG v0 vs w A k hA hn hbx hv0 hown hlt hrep => ?_⟩
  unfold FS.H at hG
  split at hG
  · rename_i s a hs ha
    split at hG
    · rename_i b hb'
      cases hG
      obtain ⟨hr1, hr2⟩ := F.args.ok as a ha
      have hl := hlink s a b hb'
      unfold evFunS at hl
      rw [hb] at hl
      simp only at hl
      obtain ⟨e, st', hK, hto⟩ := evCode_ok rfl hm (callsOk hC) body _ _ hd (loopsOk_of body hL) hl
      have hsz : vs.size + 1 ≤ fn.ntmps := by rw [hn, hr1]; exact hlen a
      have hbx1 : BoxRep w A 0 k (F.st.enc s) := F.st.ok bx s hs w A 0 k hbx
      have hkd0 : (F.st.enc s).kind = bx.kind := (F.st.kenc s).trans (F.st.kdec bx s hs).symm
      have hinit : (initS F.sk (F.st.enc s) (F.args.enc a)).2 = [(XID, some (F.st.enc s))] ∧ ∃ sv0, (initS F.sk (F.st.enc s) (F.args.enc a)).1 = (0, sv0) :: initEnv 1 (F.args.enc a) ∧ ∀ ro, RepS w ro (fun id => if id = XID then some k else none) v0 sv0 := by
        cases hsk : F.sk with
        | var =>
          rw [hsk] at hv0
          obtain ⟨b, hb1, hb2⟩ := hv0
          exact ⟨rfl, _, rfl, fun ro => ⟨k, b, by simp, hb1, hb2⟩⟩
        | row =>
          rw [hsk] at hv0
          exact ⟨rfl, _, rfl, fun ro => ⟨k, by simp, hv0⟩⟩
        | sol => exact ⟨rfl, _, rfl, fun ro => trivial⟩
      obtain ⟨hi2, sv0, hi1, hsv0⟩ := hinit
      have hgb : ∀ id x, getB (initS F.sk (F.st.enc s) (F.args.enc a)).2 id = some (some x) → id = XID ∧ x = F.st.enc s := fun id x hx => by
        rw [hi2] at hx
        simp only [getB] at hx
        cases hbq : Nat.beq XID id with
        | true => rw [hbq] at hx; cases hx; exact ⟨(beq_iff.1 hbq).symm, rfl⟩
        | false => rw [hbq] at hx; cases hx
      refine calls_of_wp hf hb (hto ⟨w, owns bx.kind k, A, some k⟩ _ w _ ⟨A, fun id => if id = XID then some k else none, ⟨⟨rfl, rfl, rfl, Nat.le_refl _, fun _ _ _ => rfl, Nat.le_refl _⟩, fun s => ?_, fun id x hx => ?_, fun id id' x x' bb k1 k2 hx hx' _ _ _ _ => (hgb id x hx).1.trans (hgb id' x' hx').1.symm, fun id hid => ?_, fun b hb => .inl hb, hA, fun id k' b q hk hb => ?_, rfl, ?_, fun k' hk' => ⟨hN, fun _ _ => by have h0 : some k = some k' := hk'; rw [← h0]; exact if_pos rfl⟩, fun id kid xs hx => by have := (hgb id _ hx).2; have h2 := F.st.nq hq s; rw [← this] at h2; cases h2⟩⟩ fun a' w' hR' => ?_)
      · rw [hi1]
        cases s with
        | zero =>
          have h1 : (#[v0] ++ vs ++ Array.replicate (fn.ntmps - (#[v0] ++ vs).size) undef).getD 0 undef = v0 := by simp [Array.getElem?_append]
          show RepS w A _ ((#[v0] ++ vs ++ Array.replicate (fn.ntmps - (#[v0] ++ vs).size) undef).getD 0 undef) sv0
          rw [h1]
          exact hsv0 A
        | succ s =>
          show RepS w A _ ((#[v0] ++ vs ++ Array.replicate (fn.ntmps - (#[v0] ++ vs).size) undef).getD (s + 1) undef) (get (initEnv 1 (F.args.enc a)) (s + 1))
          rw [get_init]
          simp only [Nat.le_add_left, if_true, Nat.add_sub_cancel]
          cases hy : (F.args.enc a)[s]? with
          | none => trivial
          | some y =>
            have hs1 : s < vs.size := by rw [hn, hr1]; exact (List.getElem?_eq_some_iff.1 hy).1
            have hs2 : s < as.length := by omega
            have h1 : (#[v0] ++ vs ++ Array.replicate (fn.ntmps - (#[v0] ++ vs).size) undef).getD (s + 1) undef = vs[s] := by
              rw [Array.append_assoc, Array.getD_eq_getD_getElem?, Array.getElem?_append_right (by simp), Array.getElem?_append_left (by simpa using hs1)]
              simp [hs1]
            rw [h1]
            exact rep_entry (hr2 s _ y (List.getElem?_eq_getElem hs2) hy w A _ (hrep s _ _ (by simp [hs1]) (List.getElem?_eq_getElem hs2)))
      · obtain ⟨rfl, rfl⟩ := hgb id x hx
        exact ⟨k, by simp, hbx1, fun b hb => ⟨.inr (hkd0 ▸ hb), hown b (hkd0 ▸ hb)⟩⟩
      · rw [hi2] at hid
        simp only [getB] at hid
        cases hbq : Nat.beq XID id with
        | true => rw [hbq] at hid; cases hid
        | false => rw [if_neg (fun e => by subst e; cases hbq)]
      · split at hk
        · cases hk; exact hlt b q hb
        · cases hk
      · simp; omega
      · obtain ⟨ro, β, hR'⟩ := hR'
        have fin : ∀ p, finS (mkCx P cs ls : Cx (F.β × F.σ)) st' fn.results.toList = some p → F.fin p.1 p.2 = some b → a'.defers = [] ∧ ∃ v, (results fn a'.tmps).run P w' = .ok v w' ∧ ∃ v', Ending.returned v = .returned v' ∧ BelowX ⟨w, owns bx.kind k, A, none⟩ w' ∧ BoxRep w' (fun b' => fresh w w' (give A bx (F.st.enc b.2) k) b' ∧ ¬ ownB v' (F.ret.enc b.1) b') 0 k (F.st.enc b.2) ∧ ((F.st.enc b.2).kind = bx.kind ∨ (F.st.enc b.2).kind = .fro) ∧ RetRep w w' (give A bx (F.st.enc b.2) k) v' (F.ret.enc b.1) := fun p h1 h2 => by
          unfold finS at h1
          split at h1
          · rename_i bb hbb
            split at h1
            · rename_i rt hrt
              cases h1
              unfold FS.fin at h2
              split at h2
              · rename_i b1 s1 hb1 hs1
                cases h2
                obtain ⟨k', hk', hrep', hown'⟩ := hR'.box XID bb hbb
                have hk0 : β XID = some k := (hR'.fix k rfl).2 _ hbb
                rw [hk0] at hk'; cases hk'
                have hkb : bx.kind = bb.kind := (F.st.kdec bx s hs).trans (F.st.kdec bb _ hs1).symm
                obtain ⟨v, hv, hret, hro⟩ := evRetS_ok (P := P) rfl hR' hbb hk0 (fun b h => hkb ▸ h) hrt
                refine ⟨hR'.defers, v, hv, v, rfl, ⟨hR'.below.os, hR'.below.tape, hR'.below.output, hR'.below.size, hR'.below.block, hR'.below.drawn⟩, ?_, .inl ((F.st.kenc _).trans (F.st.kdec bx s hs).symm), (F.ret.ok rt _ hb1 _ _ _ _ hret).mono fun b h => .inl h⟩
                exact F.st.ok bb _ hs1 w' _ 0 k (hrep'.mono (fun b hb => ⟨fresh_mono (fun _ h => .inl h) (hro b hb).1, fun h => (hro b hb).2 (F.ret.own rt _ hb1 _ _ _ _ hret b h)⟩) (fun _ _ => rfl) (fun _ _ => rfl))
              · cases h2
            · cases h1
          · cases h1
        cases e with
        | ret =>
          simp only at hK
          split at hK
          · rename_i p hp; exact fin p hp hK
          · cases hK
        | normal =>
          simp only at hK
          split at hK
          · rename_i p hp; exact fin p hp hK
          · cases hK
        | exit id => cases hK
        | goto l => cases hK
        | panic l => cases hK
        | outgrown => cases hK
    · cases hG
  · cases hG
end
end Go.Proofs.YtalkkenkeilmpaaGreat.Ev
