/- What the evaluator tells of one operation is what the model does: cuts, calls; all together. -/
import Derived.Test.YtfgaeenlnkioaaaEv7
namespace Go.Proofs.Ytfgaeenlnkioaaa.Ev
open Go Go.RowKit
set_option linter.unusedVariables false
set_option linter.unusedSimpArgs false

/-- what a call hands back: 'A': what it may share with its arguments. -/
def fresh (w w' : World) (A : Nat → Prop) (b : Nat) : Prop := A b ∨ (w.heap.size ≤ b ∧ b < w'.heap.size)
def RetRep (w w' : World) (A : Nat → Prop) (v : Value) : Rt → Prop
  | .one a => Rep w' (fresh w w' A) v a
  | .many xs => ∃ vs : Array Value, v = .tuple vs ∧ vs.size = xs.length ∧ ∀ (i : Nat) (u : Value) (y : AV), vs[i]? = some u → xs[i]? = some y → Rep w' (fresh w w' A) u y
  | .own t e l => ∃ xs, w'.ownsRow w.heap.size t e.z v l.length xs ∧ ∀ j c, j < l.length → c < e.z → ∃ u, xs[j * e.z + c]? = some u ∧ Rep w' (fun b => fresh w w' A b ∧ v.ownBlock ≠ some b) u (e.cell (l.getD j default) c)

def callable (P : Program) (f : FuncId) : Bool := match P.funcs[f]? with
  | some fn => fn.name != "runtime.NumGoroutine" && fn.body.isSome
  | none => false

/-- what is promised of a function's calls. -/
structure Fun (P : Program) (f : FuncId) (G : List AV → Option Rt) : Prop where
  can : callable P f = true
  runs : ∀ (as : List AV) (rt : Rt), G as = some rt → ∀ (vs : Array Value) (w : World) (A : Nat → Prop), (∀ b, A b → b < w.heap.size) → vs.size = as.length → (∀ (i : Nat) (v : Value) (y : AV), vs[i]? = some v → as[i]? = some y → Rep w A v y) →
    Calls P f vs w fun e w' => ∃ v, e = .returned v ∧ Below w.heap.size w w' ∧ RetRep w w' A v rt

/-- what a function hands back that writes into its first argument: nothing that leads anywhere. -/
def RetP (v : Value) : Rt → Prop
  | .one a => a = .v v
  | .many ys => ∃ vs : Array Value, v = .tuple vs ∧ vs.size = ys.length ∧ ∀ (i : Nat) (u : Value) (y : AV), vs[i]? = some u → ys[i]? = some y → y = .v u
  | .own _ _ _ => False
/-- the value of an argument that is written into. -/
def skV : SK → Blk → Value → Prop
  | .var, k, v => ∃ b, k.own = some b ∧ v = .pointer (some ⟨b, 0, none⟩)
  | .row, k, v => v = k.v
/-- what is promised of the calls of a function that writes into its first argument. -/
structure FunS (P : Program) (f : FuncId) (sk : SK) (H : Box → List AV → Option (Rt × Box)) : Prop where
  can : callable P f = true
  runs : ∀ (bx : Box) (as : List AV) (rt : Rt) (bx' : Box), H bx as = some (rt, bx') → ∀ (v0 : Value) (vs : Array Value) (w : World) (A : Nat → Prop) (k : Blk), (∀ b, A b → b < w.heap.size) → vs.size = as.length → BoxRep w A 0 k bx → skV sk k v0 → (∀ b, k.own = some b → b < w.heap.size ∧ ¬ A b) →
    (∀ (i : Nat) (v : Value) (y : AV), vs[i]? = some v → as[i]? = some y → Rep w A v y) →
    Calls P f (#[v0] ++ vs) w fun e w' => ∃ v, e = .returned v ∧ BelowX ⟨w, fun b => k.own = some b, A, none⟩ w' ∧ BoxRep w' (fresh w w' A) 0 k bx' ∧ RetP v rt

section
variable {P : Program} {N : Nat} {g : Nat → SV} {gB : Nat → Option (Option Box)} {o : Oper} {u : Upd} {cx : Cx Upd}

theorem run_callFunc {f : FuncId} (h : callable P f = true) (vs : Array Value) (w : World) : (callFunc f vs).run P w = .ok (.enter f vs) w := by
  unfold callable at h
  split at h
  · rename_i fn hfn
    simp only [Bool.and_eq_true, bne_iff_ne] at h
    obtain ⟨h1, h2⟩ := h
    refine run_pureRun ?_ w
    have h3 : fn.body.isNone = false := by cases hb : fn.body <;> simp_all
    have h4 : (fn.name == "runtime.NumGoroutine") = false := by simpa using h1
    have h5 : fn.body ≠ none := by intro e; rw [e] at h3; cases h3
    simp [callFunc, program, bind, Sem.bind, pureRun, hfn, h1, h5, pure]
  · cases h

theorem R0.seenLt {w0 : Base} {a : Act} {w : World} {ro : Nat → Prop} {β : Nat → Option Blk} (hR : R0 w0 N g gB a w ro β) {b : Nat} (h : seen gB ro β b) : b < w.heap.size := by
  rcases h with h | ⟨id, x, k, _, hk, hb⟩
  · exact hR.roLt b h
  · exact hR.βLt id k b hk hb
theorem args_ok {w0 : Base} {a : Act} {w : World} {ro : Nat → Prop} {β : Nat → Option Blk} (hR : R0 w0 N g gB a w ro β) : ∀ (xs : List Operand) (as : List AV), args g gB xs = some as → as.length = xs.length ∧ ∀ (i : Nat) (v : Value) (y : AV), (xs.map a.eval)[i]? = some v → as[i]? = some y → Rep w (seen gB ro β) v y
  | [], as, h => by simp [args] at h; subst h; exact ⟨rfl, fun i v y h => by simp at h⟩
  | x :: xs, as, h => by
    simp only [args] at h
    split at h
    · rename_i y hy
      split at h
      · rename_i l hl
        cases h
        obtain ⟨h1, h2⟩ := args_ok hR xs l hl
        refine ⟨by simp [h1], fun i v y' hv hy' => ?_⟩
        cases i with
        | zero => simp at hv hy'; subst hv hy'; exact hR.exA hy
        | succ i => simp at hv hy'; exact h2 i v y' (by simpa using hv) hy'
      · cases h
    · cases h

theorem argsF_ok {w0 : Base} {a : Act} {w : World} {ro : Nat → Prop} {β : Nat → Option Blk} (hR : R0 w0 N g gB a w ro β) : ∀ (xs : List Operand) (as : List AV) (bs : Bxs), argsF g gB xs = some (as, bs) → Frz gB bs ∧ as.length = xs.length ∧ ∀ (i : Nat) (v : Value) (y : AV), (xs.map a.eval)[i]? = some v → as[i]? = some y → Rep w (rof ro β bs) v y
  | [], as, bs, h => by simp [argsF] at h; obtain ⟨rfl, rfl⟩ := h; exact ⟨.nil _, rfl, fun i v y h => by simp at h⟩
  | x :: xs, as, bs, h => by
    simp only [argsF] at h
    split at h
    · rename_i ys hx
      split at h
      · rename_i l bs' hl
        cases h
        obtain ⟨h0, h1, h2⟩ := argsF_ok hR xs l bs hl
        refine ⟨h0, by simp [h1], fun i v y' hv hy' => ?_⟩
        cases i with
        | zero =>
          simp at hv hy'; subst hv hy'
          have hs := hR.sv x
          rw [hx] at hs
          obtain ⟨ad, hv, hsp, hr, hc⟩ := hs
          rw [hv]
          refine .pt ad ys (fun i => (w.cell? ⟨ad.block, ad.off + i, none⟩).getD undef) hsp (.inl hr) (fun i hi => ?_) (fun i y hy => ?_)
          · obtain ⟨v, h1, _⟩ := hc i _ (List.getElem?_eq_getElem hi)
            rw [h1]; rfl
          · obtain ⟨v, h1, h2⟩ := hc i y hy
            rw [h1]; exact h2.mono (fun b hb => .inl hb) (fun _ _ => rfl)
        | succ i => simp at hv hy'; exact h2 i v y' (by simpa using hv) hy'
      · cases h
    · split at h
      · rename_i y b1 hy
        split at h
        · rename_i l b2 hl
          cases h
          obtain ⟨f1, r1⟩ := hR.exF hy
          obtain ⟨f2, h1, h2⟩ := argsF_ok hR xs l b2 hl
          refine ⟨f1.app f2, by simp [h1], fun i v y' hv hy' => ?_⟩
          cases i with
          | zero => simp at hv hy'; subst hv hy'; exact r1.mono (fun b hb => rof_app1 b hb) (fun _ _ => rfl)
          | succ i => simp at hv hy'; exact (h2 i v y' (by simpa using hv) hy').mono (fun b hb => rof_app2 b hb) (fun _ _ => rfl)
        · cases h
      · cases h

theorem rep_plain {w w' : World} {ro ro' : Nat → Prop} {v : Value} {a : AV} (h : Rep w ro v a) (hp : plainA a = true) : Rep w' ro' v a := by
  cases h <;> simp [plainA] at hp
  exact .v _

/-- a call, of whose arguments rows of one's own are given away ('bs'), or which hands back nothing that could lead to them ('bs' none). -/
theorem ok_call {c : Call} {f : FuncId} {as : List AV} {rt : Rt} {bs : Bxs} {G : List AV → Option Rt} (hop : o.op = .call c) (hc : ∃ x, c.callee = .value x ∧ sv g x = .p (.v (.func (.func f) #[] #[]))) (hF : Fun P f G) (hG : G as = some rt) (hd : ∀ d, o.dst = some d → d < N)
    (hargs : argsF g gB c.args.toList = some (as, bs) ∨ (bs = [] ∧ args g gB c.args.toList = some as))
    (hu : (∃ y, rt = .one y ∧ ((plainA y = true ∧ u = ⟨.p y, []⟩) ∨ (argsF g gB c.args.toList = some (as, bs) ∧ u = ⟨.p y, bs⟩))) ∨ (∃ xs, rt = .many xs ∧ ((xs.all plainA = true ∧ u = ⟨.tup xs, []⟩) ∨ (argsF g gB c.args.toList = some (as, bs) ∧ u = ⟨.tup xs, bs⟩))) ∨
      (∃ t e l d, rt = .own t e l ∧ argsF g gB c.args.toList = some (as, bs) ∧ o.dst = some d ∧ gB d = none ∧ u = ⟨.osl d, (d, some (.row t e l)) :: bs⟩) ∨ ∃ t e l d, rt = .own t e l ∧ plainE e = true ∧ o.dst = some d ∧ gB d = none ∧ u = ⟨.osl d, [(d, some (.row t e l))]⟩) : Okk P N g gB o u := by
  intro w0 a w K Q hR hK
  obtain ⟨ro, β, hR⟩ := hR
  obtain ⟨x0, hc, hx0⟩ := hc
  have hv0 : a.eval x0 = .func (.func f) #[] #[] := rep_v_inv (by have := hR.sv x0; rw [hx0] at this; exact this)
  have hexec : (execOp a.eval o).run P w = .ok (.enter f (c.args.map a.eval)) w := by
    simp only [execOp, hop, resolve, hc, hv0, Deferred.ofValue, Sem.run_bind, Sem.run_pure, Result.andThen_ok, invoke, Array.empty_append, Array.append_empty, List.append_nil]
    exact run_callFunc hF.can _ w
  unfold Oper.wp
  rw [hexec, Oper.upon_enter]
  -- where what is handed back is plain
  have plain : ∀ (s : SV), (∀ (A : Nat → Prop) (w' : World) v, RetRep w w' A v rt → ∀ ro' w'', RepS w'' ro' β v s) → u = ⟨s, []⟩ → Calls P f (c.args.map a.eval) w fun
      | .returned v, w'' => K (a.put o.dst v) w''
      | .panicked chain, w'' => Q (.panic chain) a w''
      | .outgrown, _ => LetsOut Q := fun s hs hus => by
    have hrep : ∃ A : Nat → Prop, (∀ b, A b → b < w.heap.size) ∧ as.length = c.args.toList.length ∧ ∀ (i : Nat) (v : Value) (y : AV), (c.args.toList.map a.eval)[i]? = some v → as[i]? = some y → Rep w A v y := by
      rcases hargs with h | ⟨_, h⟩
      · obtain ⟨h0, h1, h2⟩ := argsF_ok hR _ _ _ h
        exact ⟨_, (hR.freeze h0).roLt, h1, h2⟩
      · obtain ⟨h1, h2⟩ := args_ok hR _ _ h
        exact ⟨_, fun b hb => hR.seenLt hb, h1, h2⟩
    obtain ⟨A, hA, h1, h2⟩ := hrep
    refine (hF.runs as rt hG (c.args.map a.eval) w A hA (by simp [h1]) (fun i v y hv hy => h2 i v y (by simpa using hv) hy)).mono fun e w' ⟨v, he, hb, hret⟩ => ?_
    subst he
    have h3 := (hR.after hb none).put hd (hs A w' v hret _ _)
    rw [hus] at hK
    exact hK _ _ ⟨_, _, h3⟩
  have full : ∀ (s : SV), argsF g gB c.args.toList = some (as, bs) → (∀ (A : Nat → Prop) (w' : World) v, RetRep w w' A v rt → RepS w' (fresh w w' A) β v s) → u = ⟨s, bs⟩ → Calls P f (c.args.map a.eval) w fun
      | .returned v, w'' => K (a.put o.dst v) w''
      | .panicked chain, w'' => Q (.panic chain) a w''
      | .outgrown, _ => LetsOut Q := fun s hargs hs hus => by
    obtain ⟨h0, h1, h2⟩ := argsF_ok hR _ _ _ hargs
    have hF' := hR.freeze h0
    refine (hF.runs as rt hG (c.args.map a.eval) w _ hF'.roLt (by simp [h1]) (fun i v y hv hy => h2 i v y (by simpa using hv) hy)).mono fun e w' ⟨v, he, hb, hret⟩ => ?_
    subst he
    have h3 := (hF'.after hb none).put hd (RepS.mono (fun b hb => hb.imp id (fun h => ⟨h.1, h.2, by simp⟩)) (fun _ _ => rfl) (fun _ _ h => h) (hs _ w' v hret))
    rw [hus] at hK
    exact hK _ _ ⟨_, _, h3⟩
  rcases hu with ⟨y, rfl, ⟨hp, hu⟩ | ⟨ha, hu⟩⟩ | ⟨xs, rfl, ⟨hp, hu⟩ | ⟨ha, hu⟩⟩ | ⟨t, e, l, d, rfl, hargs, hdst, hgB, rfl⟩ | ⟨t, e, l, d, rfl, hpe, hdst, hgB, rfl⟩
  · exact plain (.p y) (fun A w' v hv ro' w'' => rep_plain (show Rep w' (fresh w w' A) v y from hv) hp) hu
  · exact full (.p y) ha (fun A w' v hv => hv) hu
  · exact plain (.tup xs) (fun A w' v ⟨vs, h1, h2, h3⟩ ro' w'' => ⟨vs, h1, h2, fun i v y hv hy => rep_plain (h3 i v y hv hy) (List.all_eq_true.1 hp y (List.mem_of_getElem? hy))⟩) hu
  · exact full (.tup xs) ha (fun A w' v hv => hv) hu
  · obtain ⟨h0, h1, h2⟩ := argsF_ok hR _ _ _ hargs
    have hF' := hR.freeze h0
    refine (hF.runs as (.own t e l) hG (c.args.map a.eval) w _ hF'.roLt (by simp [h1]) (fun i v y hv hy => h2 i v y (by simpa using hv) hy)).mono fun ee w' ⟨v, he, hb, hret⟩ => ?_
    subst he
    obtain ⟨xs, hown, hcells⟩ := hret
    have hgrow : w.grownBy w' none := ⟨hb.os, hb.tape, hb.output, hb.size, fun k hk _ => hb.block k hk⟩
    have hd' : updB gB bs d = none := by
      unfold updB
      cases hbb : getB bs d with
      | none => exact hgB
      | some r => obtain ⟨_, t, e, l, hl⟩ := h0 d r (getB_some hbb); rw [hgB] at hl; cases hl
    have h3 := hF'.grow (d := d) (x := .row t e l) (k := { v := v, own := v.ownBlock, t := t, z := e.z, n := l.length }) (w' := w') (ro' := fun b => rof ro β bs b ∨ (w.heap.size ≤ b ∧ b < w'.heap.size ∧ v.ownBlock ≠ some b)) (row := none) (gs := []) hd' (.inl (hd d hdst)) (fun _ _ h => by cases h) hgrow (fun b h => by cases h) (fun b hb => .inl hb) (fun b hb => hb)
      (by
        refine ⟨rfl, rfl, rfl, rfl, xs, own_base hown (Nat.zero_le _), fun j c hj hc => ?_⟩
        obtain ⟨u, hu, hr⟩ := hcells j c hj hc
        exact ⟨u, hu, hr.mono (fun b hb => hb.1.imp id (fun h => ⟨h.1, h.2, hb.2⟩)) (fun _ _ => rfl)⟩)
      (fun b hb' => .inl (hown.lt b hb'))
    rw [← updB_cons] at h3
    exact hK _ _ ⟨_, _, h3.put hd ⟨_, by simp [setβ]; rfl, rfl⟩⟩
  · have hrep : ∃ A : Nat → Prop, (∀ b, A b → b < w.heap.size) ∧ as.length = c.args.toList.length ∧ ∀ (i : Nat) (v : Value) (y : AV), (c.args.toList.map a.eval)[i]? = some v → as[i]? = some y → Rep w A v y := by
      rcases hargs with h | ⟨_, h⟩
      · obtain ⟨h0, h1, h2⟩ := argsF_ok hR _ _ _ h
        exact ⟨_, (hR.freeze h0).roLt, h1, h2⟩
      · obtain ⟨h1, h2⟩ := args_ok hR _ _ h
        exact ⟨_, fun b hb => hR.seenLt hb, h1, h2⟩
    obtain ⟨A, hA, h1, h2⟩ := hrep
    refine (hF.runs as (.own t e l) hG (c.args.map a.eval) w A hA (by simp [h1]) (fun i v y hv hy => h2 i v y (by simpa using hv) hy)).mono fun ee w' ⟨v, he, hb, hret⟩ => ?_
    subst he
    obtain ⟨xs, hown, hcells⟩ := hret
    have hgrow : w.grownBy w' none := ⟨hb.os, hb.tape, hb.output, hb.size, fun k hk _ => hb.block k hk⟩
    have h3 := hR.grow (d := d) (x := .row t e l) (k := { v := v, own := v.ownBlock, t := t, z := e.z, n := l.length }) (w' := w') (ro' := fun b => ro b ∨ (w.heap.size ≤ b ∧ b < w'.heap.size ∧ v.ownBlock ≠ some b)) (row := none) (gs := []) hgB (.inl (hd d hdst)) (fun _ _ h => by cases h) hgrow (fun b h => by cases h) (fun b hb => .inl hb) (fun b hb => hb)
      (by
        refine ⟨rfl, rfl, rfl, rfl, xs, own_base hown (Nat.zero_le _), fun j c hj hc => ?_⟩
        obtain ⟨u, hu, hr⟩ := hcells j c hj hc
        refine ⟨u, hu, rep_plain hr ?_⟩
        cases e with
        | i k => simp only [El.cell, plainA]
        | s4 => simp only [El.cell]; split <;> rfl
        | rows => cases hpe
        | tree => cases hpe)
      (fun b hb' => .inl (hown.lt b hb'))
    exact hK _ _ ⟨_, _, h3.put hd ⟨_, by simp [setβ]; rfl, rfl⟩⟩

/-- behind a call that writes into a box. -/
theorem R0.callS {w0 : Base} {a : Act} {w : World} {ro : Nat → Prop} {β : Nat → Option Blk} (h : R0 w0 N g gB a w ro β) {id : Nat} {x x' : Box} {k : Blk} {w' : World} {A : Nat → Prop} {β1 : Option Blk} (hid : gB id = some (some x)) (hk : β id = some k) (hb : BelowX ⟨w, fun b => k.own = some b, A, β1⟩ w')
    (hx : BoxRep w' (fun b => ro b ∨ (w.heap.size ≤ b ∧ b < w'.heap.size)) 0 k x') : R0 w0 N g (updB gB [(id, some x')]) a w' (fun b => ro b ∨ (w.heap.size ≤ b ∧ b < w'.heap.size)) β := by
  obtain ⟨k', hk', hrep, hown⟩ := h.box id x hid
  rw [hk] at hk'; cases hk'
  have hsz0 : w0.heap.size ≤ w.heap.size := h.below.size
  have hsz : w.heap.size ≤ w'.heap.size := hb.size
  have hw : ∀ b, ro b → w'.heap[b]? = w.heap[b]? := fun b hb' => hb.block b (h.roLt b hb') (fun e => (hown b e).2 hb')
  refine ⟨⟨hb.os.trans h.below.os, hb.tape.trans h.below.tape, hb.output.trans h.below.output, Nat.le_trans hsz0 hb.size, fun b hb' hx => (hb.block b (Nat.lt_of_lt_of_le hb' hsz0) (fun e => by rcases (hown b e).1 with h1 | h1; omega; exact hx h1)).trans (h.below.block b hb' hx)⟩,
    fun s => (h.slots s).mono (fun b hb => .inl hb) hw (fun _ _ h => h), fun id2 y hy => ?_, fun id1 id2 y1 y2 b k1 k2 h1 h2 => ?_, fun id2 h2 => ?_, fun b hb' => hb'.elim (fun h1 => h.roUp b h1) (fun h1 => .inr (.inl (Nat.le_trans hsz0 h1.1))), fun b hb' => ?_, fun id k b hk hb' => Nat.lt_of_lt_of_le (h.βLt id k b hk hb') hsz, h.defers, h.size, fun k' hk' => ⟨(h.fix k' hk').1, fun y hy => ?_⟩⟩
  · rw [updB_one] at hy
    split at hy
    · rename_i e
      cases hy; subst e
      refine ⟨k, hk, hx, fun b hb' => ⟨(hown b hb').1, ?_⟩⟩
      rintro (hr | hr)
      · exact (hown b hb').2 hr
      · exact absurd (h.βLt id2 k b hk hb') (by omega)
    · rename_i e
      obtain ⟨k2, hk2, hr2, ho2⟩ := h.box id2 y hy
      refine ⟨k2, hk2, hr2.mono (fun b hb => .inl hb) hw (fun b hb' => hb.block b (h.βLt id2 k2 b hk2 hb') (fun e' => e (h.inj id id2 _ _ b k k2 hid hy hk hk2 e' hb').symm)), fun b hb' => ⟨(ho2 b hb').1, ?_⟩⟩
      rintro (hr | hr)
      · exact (ho2 b hb').2 hr
      · exact absurd (h.βLt id2 k2 b hk2 hb') (by omega)
  · rw [updB_one] at h1 h2
    have live : ∀ i z, (if i = id then some (some x') else gB i) = some (some z) → ∃ z', gB i = some (some z') := fun i z hz => by
      split at hz
      · rename_i e; subst e; exact ⟨_, hid⟩
      · exact ⟨z, hz⟩
    obtain ⟨z1, hz1⟩ := live _ _ h1
    obtain ⟨z2, hz2⟩ := live _ _ h2
    exact h.inj id1 id2 z1 z2 b k1 k2 hz1 hz2
  · rw [updB_one] at h2
    split at h2
    · cases h2
    · exact h.free id2 h2
  · rcases hb' with h1 | h1
    · exact Nat.lt_of_lt_of_le (h.roLt b h1) hsz
    · exact h1.2
  · rw [updB_one] at hy
    split at hy
    · rename_i e; subst e; exact (h.fix k' hk').2 _ hid
    · exact (h.fix k' hk').2 _ hy
theorem plain_box {w : World} {ro ro' : Nat → Prop} {k : Blk} {b : Box} (h : BoxRep w ro 0 k b) (hp : plainB b = true) : BoxRep w ro' 0 k b := by
  cases b with
  | vr xs =>
    obtain ⟨b, c, t, h1, h2, h3, h4⟩ := h
    refine ⟨b, c, t, h1, h2, h3, fun i y hy => ?_⟩
    obtain ⟨x, hx, hr⟩ := h4 i y hy
    exact ⟨x, hx, rep_plain hr (List.all_eq_true.1 hp y (List.mem_of_getElem? hy))⟩
  | row t e l =>
    obtain ⟨h1, h2, h3, h4, xs, h5, h6⟩ := h
    refine ⟨h1, h2, h3, h4, xs, h5, fun j c hj hc => ?_⟩
    obtain ⟨x, hx, hr⟩ := h6 j c hj hc
    refine ⟨x, hx, rep_plain hr ?_⟩
    cases e with
    | i k => simp only [El.cell, plainA]
    | s4 => simp only [El.cell]; split <;> rfl
    | rows => cases hp
    | tree => cases hp
theorem hid_live {id id' : Nat} {x : Box} (h : Ev.hid gB id id' = some (some x)) : id' ≠ id ∧ gB id' = some (some x) := by
  unfold Ev.hid at h
  split at h
  · cases h
  · rename_i hb; exact ⟨fun e => by (rw [beq_iff.2 e.symm] at hb; cases hb), h⟩
theorem hid_exA {id : Nat} {x : Operand} {y : AV} (h : exA g (Ev.hid gB id) x = some y) : exA g gB x = some y := by
  unfold exA at h ⊢
  split at h
  · exact h
  · split at h
    · rename_i hb; simp only [(hid_live hb).2]; exact h
    · cases h
  · exact h
  · split at h
    · rename_i hb; simp only [(hid_live hb).2]; exact h
    · cases h
  · cases h
/-- the boxes but one: they are told of still. -/
theorem R0.hid {w0 : Base} {a : Act} {w : World} {ro : Nat → Prop} {β : Nat → Option Blk} (h : R0 w0 N g gB a w ro β) (id : Nat) (hg : gB id ≠ none) : R0 w0 N g (Ev.hid gB id) a w ro β :=
  { h with
    slots := h.slots
    box := fun id' x hx => h.box id' x (hid_live hx).2
    inj := fun i j x y b k k' hx hy => h.inj i j x y b k k' (hid_live hx).2 (hid_live hy).2
    free := fun i hi => by
      unfold Ev.hid at hi
      split at hi
      · cases hi
      · exact h.free i hi
    fix := fun k hk => ⟨(h.fix k hk).1, fun x hx => (h.fix k hk).2 x (hid_live hx).2⟩ }
theorem ok_callS {c : Call} {f : FuncId} {x : Operand} {r : List Operand} {sk : SK} {id : Nat} {bx bx' : Box} {as : List AV} {rt : Rt} {pl : Bool} {H : Box → List AV → Option (Rt × Box)} (hop : o.op = .call c) (hc : c.callee = .value (.func f)) (hF : FunS P f sk H) (hH : H bx as = some (rt, bx')) (hd : ∀ d, o.dst = some d → d < N)
    (hx : c.args.toList = x :: r) (hst : stA g gB sk x = some (id, bx)) (hargs : (pl = true ∧ argsF g gB r = some (as, [])) ∨ (pl = false ∧ args g (Ev.hid gB id) r = some as)) (hpl : pl = true ∨ plainB bx' = true)
    (hu : (∃ y, rt = .one y ∧ u = ⟨.p y, [(id, some bx')]⟩) ∨ (∃ ys, rt = .many ys ∧ u = ⟨.tup ys, [(id, some bx')]⟩)) : Okk P N g gB o u := by
  intro w0 a w K Q hR hK
  obtain ⟨ro, β, hR⟩ := hR
  have hexec : (execOp a.eval o).run P w = .ok (.enter f (c.args.map a.eval)) w := by
    simp only [execOp, hop, resolve, hc, Act.eval, Deferred.ofValue, Sem.run_bind, Sem.run_pure, Result.andThen_ok, invoke, Array.empty_append, Array.append_empty, List.append_nil]
    exact run_callFunc hF.can _ w
  unfold Oper.wp
  rw [hexec, Oper.upon_enter]
  have hgB : gB id = some (some bx) := by
    unfold stA at hst
    split at hst
    · split at hst
      · rename_i hb; cases hst; exact hb
      · cases hst
    · split at hst
      · rename_i hb; cases hst; exact hb
      · cases hst
    · cases hst
  obtain ⟨k, hk, hrep, hown⟩ := hR.box id bx hgB
  have hv0 : skV sk k (a.eval x) := by
    have hs := hR.sv x
    unfold stA at hst
    split at hst
    · rename_i hx'
      rw [hx'] at hs
      split at hst
      · cases hst
        obtain ⟨k', b, hk', hb, hv⟩ := hs
        rw [hk] at hk'; cases hk'
        exact ⟨b, hb, hv⟩
      · cases hst
    · rename_i hx'
      rw [hx'] at hs
      split at hst
      · cases hst
        obtain ⟨k', hk', hv⟩ := hs
        rw [hk] at hk'; cases hk'
        exact hv
      · cases hst
    · cases hst
  -- the other arguments
  obtain ⟨A, hA, hAk, hlen, hreps, hAr, hro⟩ : ∃ A : Nat → Prop, (∀ b, A b → b < w.heap.size) ∧ (∀ b, k.own = some b → ¬ A b) ∧ as.length = r.length ∧ (∀ (i : Nat) (v : Value) (y : AV), (r.map a.eval)[i]? = some v → as[i]? = some y → Rep w A v y) ∧ (∀ b, ro b → A b) ∧ (pl = true → ∀ b, A b → ro b) := by
    rcases hargs with ⟨_, hF'⟩ | ⟨rfl, ha⟩
    · obtain ⟨h0, h1, h2⟩ := argsF_ok hR _ _ _ hF'
      refine ⟨ro, hR.roLt, fun b hb => (hown b hb).2, h1, fun i v y hv hy => (h2 i v y hv hy).mono (fun b hb => ?_) (fun _ _ => rfl), fun b hb => hb, fun _ b hb => hb⟩
      rcases hb with hb | ⟨_, _, hm, _⟩
      · exact hb
      · cases hm
    · have hR' := hR.hid id (by rw [hgB]; simp)
      obtain ⟨h1, h2⟩ := args_ok hR' _ _ ha
      refine ⟨_, fun b hb => hR'.seenLt hb, fun b hb => ?_, h1, h2, fun b hb => .inl hb, fun h => by cases h⟩
      rintro (hr | ⟨id', x', k', hx', hk', hb'⟩)
      · exact (hown b hb).2 hr
      · obtain ⟨hne, hx2⟩ := hid_live hx'
        exact hne (hR.inj id' id x' bx b k' k hx2 hgB hk' hk hb' hb)
  have hargs' : c.args.map a.eval = #[a.eval x] ++ (r.map a.eval).toArray := by
    apply Array.ext'
    rw [Array.toList_map, hx]
    simp
  rw [hargs']
  refine (hF.runs bx as rt bx' hH (a.eval x) (r.map a.eval).toArray w A k hA (by simp [hlen]) ((hrep.mono hAr (fun _ _ => rfl) (fun _ _ => rfl))) hv0 (fun b hb => ⟨hR.βLt id k b hk hb, hAk b hb⟩) (fun i v y hv hy => hreps i v y (by simpa using hv) hy)).mono fun e w' ⟨v, he, hb, hbx, hret⟩ => ?_
  subst he
  have hbx' : BoxRep w' (fun b => ro b ∨ (w.heap.size ≤ b ∧ b < w'.heap.size)) 0 k bx' := by
    rcases hpl with hp | hp
    · exact hbx.mono (fun b hb' => hb'.imp (hro hp b) fun h => h) (fun _ _ => rfl) (fun _ _ => rfl)
    · exact plain_box hbx hp
  have h3 := hR.callS hgB hk hb hbx'
  rcases hu with ⟨y, rfl, rfl⟩ | ⟨ys, rfl, rfl⟩
  · exact hK _ _ ⟨_, _, h3.put hd (by cases hret; exact Rep.v v)⟩
  · exact hK _ _ ⟨_, _, h3.put hd (by
      obtain ⟨vs, h1, h2, h4⟩ := hret
      exact ⟨vs, h1, h2, fun i u y hu hy => by rw [h4 i u y hu hy]; exact Rep.v u⟩)⟩
theorem rep_take {w : World} {ro : Nat → Prop} {A : Option Addr} {n cap : Nat} {e : El} {l : List e.T} (h : Rep w ro (.slice A n cap) (.sl e l)) {k : Nat} (hk : k ≤ l.length) : Rep w ro (.slice A k cap) (.sl e (l.take k)) := by
  cases h with
  | sl A cap e l vals hcap hnil hA hrep =>
    have hl : (l.take k).length = k := by simp; omega
    have := Rep.sl (w := w) (ro := ro) A cap e (l.take k) vals (by omega) hnil (fun j hj => hA j (by omega)) (fun j c hj hc => by
      have h1 := hrep j c (by omega) hc
      rwa [show (l.take k).getD j default = l.getD j default by simp [List.getElem?_take, show j < k by omega]])
    rwa [hl] at this

theorem rep_drop {w : World} {ro : Nat → Prop} {A : Option Addr} {n cap : Nat} {e : El} {l : List e.T} (h : Rep w ro (.slice A n cap) (.sl e l)) {k : Nat} (hk : k ≤ l.length) : n = l.length ∧ l.length ≤ cap ∧ Rep w ro (.slice (if cap = k then A else A.map (·.add (k * e.z))) (l.length - k) (cap - k)) (.sl e (l.drop k)) := by
  cases h with
  | sl A cap e l vals hcap hnil hA hrep =>
    refine ⟨rfl, hcap, ?_⟩
    have hl : (l.drop k).length = l.length - k := by simp
    have := Rep.sl (w := w) (ro := ro) (if cap = k then A else A.map (·.add (k * e.z))) (cap - k) e (l.drop k) (fun j c => vals (k + j) c) (by omega) (fun hn => by
        split at hn
        · rw [hnil hn]; omega
        · cases A with
          | none => rw [hnil rfl]; omega
          | some a => cases hn) (fun j hj => by
        have hj' : k + j < l.length := by rw [hl] at hj; omega
        obtain ⟨a, rfl, hs, hr, hc⟩ := hA (k + j) hj'
        rw [if_neg (by omega)]
        refine ⟨⟨a.block, a.off + k * e.z, none⟩, by simp [addr_add hs], rfl, hr, fun c hc' => ?_⟩
        rw [← hc c hc']
        congr 2
        simp only [Nat.add_mul]; omega) (fun j c hj hc => by
        have hj' : k + j < l.length := by rw [hl] at hj; omega
        have h1 := hrep (k + j) c hj' hc
        rwa [show (l.drop k).getD j default = l.getD (k + j) default by simp [List.getElem?_drop]])
    rwa [hl] at this

theorem iN_ok {w0 : Base} {a : Act} {w : World} {ro : Nat → Prop} {β : Nat → Option Blk} (hR : R0 w0 N g gB a w ro β) {x : Operand} {n : Int} (h : iN (exA g gB x) = some n) : ∃ k, a.eval x = .int k n := by
  unfold iN at h
  split at h
  · rename_i kk n' hx
    cases h
    exact ⟨kk, rep_v_inv (hR.exA hx)⟩
  · cases h

theorem ok_slice {t el : TypeId} {x : Operand} {lo hi : Option Operand} {e : El} {l r : List e.T} {bs : Bxs} (hop : o.op = .slice t x lo hi none) (ht : P.underlying t = some (.slice el)) (hx : exF g gB x = some (.sl e l, bs)) (hz : szP P el = some e.z)
    (hb : (∃ h n, lo = none ∧ hi = some h ∧ iN (exA g gB h) = some n ∧ 0 ≤ n ∧ n ≤ (l.length : Int) ∧ r = l.take n.toNat) ∨ ∃ h n, lo = some h ∧ hi = none ∧ iN (exA g gB h) = some n ∧ 0 ≤ n ∧ n ≤ (l.length : Int) ∧ r = l.drop n.toNat) (hd : ∀ d, o.dst = some d → d < N) : Okk P N g gB o ⟨.p (.sl e r), bs⟩ :=
  okV hd fun w0 a w ro β hR => by
    obtain ⟨hf, hr⟩ := hR.exF hx
    refine ⟨hf, ?_⟩
    obtain ⟨A, n0, cap, hv⟩ : ∃ A n0 cap, a.eval x = .slice A n0 cap := by
      generalize a.eval x = v at hr
      cases hr; exact ⟨_, _, _, rfl⟩
    rw [hv] at hr
    have hn0 : n0 = l.length ∧ l.length ≤ cap := by cases hr; exact ⟨rfl, by assumption⟩
    obtain ⟨rfl, hcap⟩ := hn0
    rcases hb with ⟨h, n, rfl, rfl, hn, h0, h1, rfl⟩ | ⟨h, n, rfl, rfl, hn, h0, h1, rfl⟩
    · obtain ⟨k, hk⟩ := iN_ok hR hn
      refine ⟨.slice A n.toNat cap, ?_, rep_take hr (by omega)⟩
      simp only [execOp, hop, hv, Option.map_some, Option.map_none, hk]
      refine run_val (α := Unit) ?_
      unfold Instr.sliceAt
      rw [run_bind_ok (pr_under ht w)]
      simp only
      unfold Instr.slice
      rw [run_bind_ok (pr_under ht w)]
      simp only [Instr.sliceBounds, Instr.sliceBound, Sem.run_bind, Sem.run_pure, Result.andThen_ok, asIntOf]
      rw [if_pos ⟨h0, by omega⟩]
      simp only [Sem.run_pure, Result.andThen_ok, pr_size hz w]
      cases A with
      | none => simp
      | some a => simp [Addr.add]
    · obtain ⟨k, hk⟩ := iN_ok hR hn
      obtain ⟨_, _, h2⟩ := rep_drop hr (k := n.toNat) (by omega)
      refine ⟨_, ?_, h2⟩
      simp only [execOp, hop, hv, Option.map_some, Option.map_none, hk]
      refine run_val (α := Unit) ?_
      unfold Instr.sliceAt
      rw [run_bind_ok (pr_under ht w)]
      simp only
      unfold Instr.slice
      rw [run_bind_ok (pr_under ht w)]
      simp only [Instr.sliceBounds, Instr.sliceBound, Sem.run_bind, Sem.run_pure, Result.andThen_ok, asIntOf]
      rw [if_pos ⟨h0, by omega⟩]
      simp only [Sem.run_pure, Result.andThen_ok, pr_size hz w, Option.isSome_none, Bool.false_eq_true, if_false]
end
end Go.Proofs.Ytfgaeenlnkioaaa.Ev
