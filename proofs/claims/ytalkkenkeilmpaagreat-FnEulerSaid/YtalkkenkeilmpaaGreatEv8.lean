/- What the evaluator tells of one operation is what the model does: cuts, calls; all together. -/
import Derived.Test.YtalkkenkeilmpaaGreatEv7
namespace Go.Proofs.YtalkkenkeilmpaaGreat.Ev
open Go Go.RowKit
set_option linter.unusedVariables false
set_option linter.unusedSimpArgs false

/-- what a call hands back: 'A': what it may share with its arguments. -/
def fresh (w w' : World) (A : Nat → Prop) (b : Nat) : Prop := A b ∨ (w.heap.size ≤ b ∧ b < w'.heap.size)
def dpV (xs : List Value) (kv : Value) : Option (List Value) → Value
  | none => .agg (xs ++ [kv]).toArray
  | some ys => .tuple (.agg (xs ++ [kv]).toArray :: ys).toArray
def RetRep (w w' : World) (A : Nat → Prop) (v : Value) : Rt → Prop
  | .one a => Rep w' (fresh w w' A) v a
  | .many xs => ∃ vs : Array Value, v = .tuple vs ∧ vs.size = xs.length ∧ ∀ (i : Nat) (u : Value) (y : AV), vs[i]? = some u → xs[i]? = some y → Rep w' (fresh w w' A) u y
  | .own t e l => ∃ xs, ownsW w' w.heap.size t e.z v l.length xs ∧ ∀ j c, j < l.length → c < e.z → ∃ u, xs[j * e.z + c]? = some u ∧ Rep w' (fun b => fresh w w' A b ∧ v.ownBlock ≠ some b) u (e.cell (l.getD j default) c)
  | .var xs => ∃ b c t, v = .pointer (some ⟨b, 0, none⟩) ∧ w.heap.size ≤ b ∧ b < w'.heap.size ∧ w'.heap[b]? = some (.cells c t (0, 0)) ∧ c.size = xs.length ∧ ∀ (i : Nat) (y : AV), xs[i]? = some y → ∃ x, c[i]? = some x ∧ Rep w' (fun b' => fresh w w' A b' ∧ b ≠ b') x y
  | .rows t te l => ∃ fp, OwnR t te w' fp v l ∧ fp.Nodup ∧ ∀ b ∈ fp, w.heap.size ≤ b ∧ b < w'.heap.size
  | .deep xs ys l => ∃ fp kv, v = dpV xs kv ys ∧ OwnK w' fp kv l ∧ fp.Nodup ∧ ∀ b ∈ fp, w.heap.size ≤ b ∧ b < w'.heap.size

def callable (P : Program) (f : FuncId) : Bool := match P.funcs[f]? with
  | some fn => fn.name != "runtime.NumGoroutine" && fn.body.isSome
  | none => false

/-- what is promised of a function's calls. -/
structure Fun (P : Program) (f : FuncId) (G : List AV → Option Rt) : Prop where
  can : callable P f = true
  runs : ∀ (as : List AV) (rt : Rt), G as = some rt → ∀ (vs : Array Value) (w : World) (A : Nat → Prop), (∀ b, A b → b < w.heap.size) → vs.size = as.length → (∀ (i : Nat) (v : Value) (y : AV), vs[i]? = some v → as[i]? = some y → Rep w A v y) →
    Calls P f vs w fun e w' => ∃ v, e = .returned v ∧ BelowD w w' ∧ RetRep w w' A v rt

/-- the block that what is handed back has for itself. -/
def ownB (v : Value) : Rt → Nat → Prop
  | .one _, _ => False
  | .many _, _ => False
  | .own _ _ _, b => v.ownBlock = some b
  | .var _, b => v = .pointer (some ⟨b, 0, none⟩)
  | .deep _ _ _, _ => False
  | .rows _ _ _, _ => False
/-- the value of an argument that is written into. -/
def skV : SK → Blk → Value → Prop
  | .var, k, v => ∃ b, k.own = some b ∧ v = .pointer (some ⟨b, 0, none⟩)
  | .row, k, v => v = k.v
  | .sol, k, v => ∃ xs : List Value, xs.length = 5 ∧ v = .agg (xs ++ [k.v]).toArray
/-- what may be read behind a call: also the block that was written into, where it is one's own no more. -/
def give (A : Nat → Prop) (bx bx' : Box) (k : Blk) (b : Nat) : Prop := A b ∨ (bx'.kind = .fro ∧ owns bx.kind k b)
/-- what is promised of the calls of a function that writes into its first argument. -/
structure FunS (P : Program) (f : FuncId) (sk : SK) (H : Box → List AV → Option (Rt × Box)) : Prop where
  can : callable P f = true
  runs : ∀ (bx : Box) (as : List AV) (rt : Rt) (bx' : Box), H bx as = some (rt, bx') → ∀ (v0 : Value) (vs : Array Value) (w : World) (A : Nat → Prop) (k : Blk), (∀ b, A b → b < w.heap.size) → vs.size = as.length → BoxRep w A 0 k bx → skV sk k v0 → (∀ b, owns bx.kind k b → ¬ A b) → (∀ b q, owns q k b → b < w.heap.size) →
    (∀ (i : Nat) (v : Value) (y : AV), vs[i]? = some v → as[i]? = some y → Rep w A v y) →
    Calls P f (#[v0] ++ vs) w fun e w' => ∃ v, e = .returned v ∧ BelowX ⟨w, owns bx.kind k, A, none⟩ w' ∧ BoxRep w' (fun b => fresh w w' (give A bx bx' k) b ∧ ¬ ownB v rt b) 0 k bx' ∧ (bx'.kind = bx.kind ∨ bx'.kind = .fro) ∧ RetRep w w' (give A bx bx' k) v rt

theorem fresh_mono {w w' : World} {A A' : Nat → Prop} (h : ∀ b, A b → A' b) {b : Nat} (hb : fresh w w' A b) : fresh w w' A' b := hb.imp (h b) id
theorem RetRep.mono {w w' : World} {A A' : Nat → Prop} (h : ∀ b, A b → A' b) {v : Value} {rt : Rt} (hr : RetRep w w' A v rt) : RetRep w w' A' v rt := by
  cases rt with
  | one a => exact Rep.mono (fun b hb => fresh_mono h hb) (fun _ _ => rfl) (show Rep w' _ v a from hr)
  | many xs => obtain ⟨vs, h1, h2, h3⟩ := hr; exact ⟨vs, h1, h2, fun i u y hu hy => Rep.mono (fun b hb => fresh_mono h hb) (fun _ _ => rfl) (h3 i u y hu hy)⟩
  | own t e l => obtain ⟨xs, h1, h2⟩ := hr; exact ⟨xs, h1, fun j c hj hc => (h2 j c hj hc).imp fun u hu => ⟨hu.1, Rep.mono (fun b hb => ⟨fresh_mono h hb.1, hb.2⟩) (fun _ _ => rfl) hu.2⟩⟩
  | var xs => obtain ⟨b, c, t, h1, h2, h3, h4, h5, h6⟩ := hr; exact ⟨b, c, t, h1, h2, h3, h4, h5, fun i y hy => (h6 i y hy).imp fun x hx => ⟨hx.1, Rep.mono (fun b' hb => ⟨fresh_mono h hb.1, hb.2⟩) (fun _ _ => rfl) hx.2⟩⟩
  | deep xs ys l => exact hr
  | rows t te l => exact hr
/-- what is promised of the calls of a function that takes a row and hands it back, cut or written into. -/
structure FunR (P : Program) (f : FuncId) (H : Box → Option Box) : Prop where
  can : callable P f = true
  runs : ∀ (t : TypeId) (e : El) (l : List e.T) (bx' : Box), H (.row t e l) = some bx' → ∃ (t' : TypeId) (e' : El) (l' : List e'.T), bx' = .row t' e' l' ∧ ∀ (w : World) (A : Nat → Prop) (k : Blk), (∀ b, A b → b < w.heap.size) → BoxRep w A 0 k (.row t e l) → (∀ b, k.own = some b → ¬ A b) → (∀ b, k.own = some b → b < w.heap.size) →
    Calls P f #[k.v] w fun e w' => ∃ k' : Blk, e = .returned k'.v ∧ BelowX ⟨w, owns .one k, A, none⟩ w' ∧ BoxRep w' A 0 k' bx' ∧ k'.fp = [] ∧ ∀ b, k'.own = some b → k.own = some b
/-- a solid that is all its own. -/
def SolV (w : World) (fp : List Nat) (v : Value) (t : Tree) : Prop := ∃ kv, v = .agg #[.bool t.inn, .int .i64 t.p.a, .int .i64 t.p.b, .int .i64 t.p.c, .int .i64 t.p.d, kv] ∧ OwnK w fp kv t.kids ∧ fp.Nodup
/-- what is promised of the calls of a function that makes a node. -/
structure FunN (P : Program) (f : FuncId) : Prop where
  can : callable P f = true
  runs : ∀ (w : World) (p : S4) (t1 t2 : Tree) (fp1 fp2 : List Nat) (v1 v2 : Value), SolV w fp1 v1 t1 → SolV w fp2 v2 t2 → (∀ b ∈ fp1, b ∉ fp2) → (∀ b ∈ fp1, b < w.heap.size) → (∀ b ∈ fp2, b < w.heap.size) →
    Calls P f #[.agg #[.int .i64 p.a, .int .i64 p.b, .int .i64 p.c, .int .i64 p.d], v1, v2] w fun e w' => ∃ v fp, e = .returned v ∧ BelowD w w' ∧ SolV w' fp v (.mk false p [t1, t2]) ∧ ∀ b ∈ fp, b ∈ fp1 ∨ b ∈ fp2 ∨ (w.heap.size ≤ b ∧ b < w'.heap.size)
section
variable {P : Program} {N : Nat} {g : Nat → SV} {gB : Nat → Option (Option Box)} {o : Oper} {u : Upd} {cx : Cx Upd}

theorem run_callFunc {f : FuncId} (h : callable P f = true) (vs : Array Value) (w : World) : (callFunc f vs).run P w = .ok (.enter f vs) w := by
  unfold callable at h
  split at h
  · rename_i fn hfn
    simp only [Bool.and_eq_true, bne_iff_ne] at h
    obtain ⟨h1, h2⟩ := h
    refine run_pureRun ?_ w
    have h3 : fn.body.isNone = false := by cases hb : fn.body <;> simp_all
    have h4 : (fn.name == "runtime.NumGoroutine") = false := by simpa using h1
    have h5 : fn.body ≠ none := by intro e; rw [e] at h3; cases h3
    simp [callFunc, program, bind, Sem.bind, pureRun, hfn, h1, h5, pure]
  · cases h

theorem R0.seenLt {w0 : Base} {a : Act} {w : World} {ro : Nat → Prop} {β : Nat → Option Blk} (hR : R0 w0 N g gB a w ro β) {b : Nat} (h : seen gB ro β b) : b < w.heap.size := by
  rcases h with h | ⟨id, x, k, _, hk, hb⟩
  · exact hR.roLt b h
  · exact hR.βLt id k b _ hk hb
theorem args_ok {w0 : Base} {a : Act} {w : World} {ro : Nat → Prop} {β : Nat → Option Blk} (hR : R0 w0 N g gB a w ro β) : ∀ (xs : List Operand) (as : List AV), args g gB xs = some as → as.length = xs.length ∧ ∀ (i : Nat) (v : Value) (y : AV), (xs.map a.eval)[i]? = some v → as[i]? = some y → Rep w (seen gB ro β) v y
  | [], as, h => by simp [args] at h; subst h; exact ⟨rfl, fun i v y h => by simp at h⟩
  | x :: xs, as, h => by
    simp only [args] at h
    split at h
    · rename_i y hy
      split at h
      · rename_i l hl
        cases h
        obtain ⟨h1, h2⟩ := args_ok hR xs l hl
        refine ⟨by simp [h1], fun i v y' hv hy' => ?_⟩
        cases i with
        | zero => simp at hv hy'; subst hv hy'; exact hR.exA hy
        | succ i => simp at hv hy'; exact h2 i v y' (by simpa using hv) hy'
      · cases h
    · cases h

theorem argsF_ok {w0 : Base} {a : Act} {w : World} {ro : Nat → Prop} {β : Nat → Option Blk} (hR : R0 w0 N g gB a w ro β) : ∀ (xs : List Operand) (as : List AV) (bs : Bxs), argsF g gB xs = some (as, bs) → Frz gB bs ∧ as.length = xs.length ∧ ∀ (i : Nat) (v : Value) (y : AV), (xs.map a.eval)[i]? = some v → as[i]? = some y → Rep w (rof gB ro β bs) v y
  | [], as, bs, h => by simp [argsF] at h; obtain ⟨rfl, rfl⟩ := h; exact ⟨.nil _, rfl, fun i v y h => by simp at h⟩
  | x :: xs, as, bs, h => by
    simp only [argsF] at h
    split at h
    · rename_i ys hx
      split at h
      · rename_i l bs' hl
        cases h
        obtain ⟨h0, h1, h2⟩ := argsF_ok hR xs l bs hl
        refine ⟨h0, by simp [h1], fun i v y' hv hy' => ?_⟩
        cases i with
        | zero =>
          simp at hv hy'; subst hv hy'
          have hs := hR.sv x
          rw [hx] at hs
          obtain ⟨ad, hv, hsp, hr, hc⟩ := hs
          rw [hv]
          refine .pt ad ys (fun i => (w.cell? ⟨ad.block, ad.off + i, none⟩).getD undef) hsp (.inl hr) (fun i hi => ?_) (fun i y hy => ?_)
          · obtain ⟨v, h1, _⟩ := hc i _ (List.getElem?_eq_getElem hi)
            rw [h1]; rfl
          · obtain ⟨v, h1, h2⟩ := hc i y hy
            rw [h1]; exact h2.mono (fun b hb => .inl hb) (fun _ _ => rfl)
        | succ i => simp at hv hy'; exact h2 i v y' (by simpa using hv) hy'
      · cases h
    · rename_i id ys hx
      split at h
      · rename_i l hb
        split at h
        · rename_i as1 bs1 hl
          cases h
          obtain ⟨h0, h1, h2⟩ := argsF_ok hR xs as1 bs1 hl
          have hf1 : Frz gB [(id, some (.fro .tree l))] := fun id' r hm => by simp at hm; obtain ⟨rfl, rfl⟩ := hm; exact ⟨_, _, rfl, rfl, hb⟩
          refine ⟨hf1.app h0, by simp [h1], fun i v y' hv hy' => ?_⟩
          cases i with
          | zero =>
            simp at hv hy'; subst hv hy'
            have hs := hR.sv x
            rw [hx] at hs
            obtain ⟨k, hk, hv⟩ := hs
            obtain ⟨k', hk', hrep, _⟩ := hR.box id _ hb
            rw [hk] at hk'; cases hk'
            rw [hv]
            have hkids : Rep w (rof gB ro β ((id, some (.fro .tree l)) :: bs1)) k.v (.sl .tree l) := hrep.1.rep fun b hb' => .inr ⟨id, k, _, _, List.mem_cons_self, hk, hb, hb'⟩
            refine .agg _ _ (by simp) fun i x y hx hy => ?_
            by_cases hi : i < ys.length
            · rw [List.getElem?_toArray, List.getElem?_append_left hi] at hx
              rw [List.getElem?_append_left (by simpa using hi), List.getElem?_map, hx] at hy
              cases hy; exact .v _
            · rw [List.getElem?_toArray, List.getElem?_append_right (by omega)] at hx
              rw [List.getElem?_append_right (by simp; omega), List.length_map] at hy
              generalize i - ys.length = j at hx hy
              cases j with
              | zero => simp at hx hy; subst hx hy; exact hkids
              | succ j => simp at hx
          | succ i => simp at hv hy'; exact (h2 i v y' (by simpa using hv) hy').mono (fun b hb => rof_app2 (bs := [(id, some (.fro .tree l))]) b hb) (fun _ _ => rfl)
        · cases h
      · cases h
    · split at h
      · rename_i y b1 hy
        split at h
        · rename_i l b2 hl
          cases h
          obtain ⟨f1, r1⟩ := hR.exF hy
          obtain ⟨f2, h1, h2⟩ := argsF_ok hR xs l b2 hl
          refine ⟨f1.app f2, by simp [h1], fun i v y' hv hy' => ?_⟩
          cases i with
          | zero => simp at hv hy'; subst hv hy'; exact r1.mono (fun b hb => rof_app1 b hb) (fun _ _ => rfl)
          | succ i => simp at hv hy'; exact (h2 i v y' (by simpa using hv) hy').mono (fun b hb => rof_app2 b hb) (fun _ _ => rfl)
        · cases h
      · cases h

theorem rep_plain {w w' : World} {ro ro' : Nat → Prop} {v : Value} {a : AV} (h : Rep w ro v a) (hp : plainA a = true) : Rep w' ro' v a := by
  cases h <;> simp [plainA] at hp
  exact .v _

/-- a call, of whose arguments rows of one's own are given away ('bs'), or which hands back nothing that could lead to them ('bs' none). -/
theorem ok_call {c : Call} {f : FuncId} {as : List AV} {rt : Rt} {bs : Bxs} {G : List AV → Option Rt} (hop : o.op = .call c) (hc : ∃ x, c.callee = .value x ∧ sv g x = .p (.v (.func (.func f) #[] #[]))) (hF : Fun P f G) (hG : G as = some rt) (hd : ∀ d, o.dst = some d → d < N)
    (hargs : argsF g gB c.args.toList = some (as, bs) ∨ (bs = [] ∧ args g gB c.args.toList = some as))
    (hu : (∃ y, rt = .one y ∧ ((plainA y = true ∧ u = ⟨.p y, []⟩) ∨ (argsF g gB c.args.toList = some (as, bs) ∧ u = ⟨.p y, bs⟩))) ∨ (∃ xs, rt = .many xs ∧ ((xs.all plainA = true ∧ u = ⟨.tup xs, []⟩) ∨ (argsF g gB c.args.toList = some (as, bs) ∧ u = ⟨.tup xs, bs⟩))) ∨
      (∃ t e l d, rt = .own t e l ∧ argsF g gB c.args.toList = some (as, bs) ∧ o.dst = some d ∧ gB d = none ∧ u = ⟨.osl d, (d, some (.row t e l)) :: bs⟩) ∨ (∃ t e l d, rt = .own t e l ∧ plainE e = true ∧ o.dst = some d ∧ gB d = none ∧ u = ⟨.osl d, [(d, some (.row t e l))]⟩) ∨
      ∃ xs d, rt = .var xs ∧ argsF g gB c.args.toList = some (as, bs) ∧ o.dst = some d ∧ gB d = none ∧ u = ⟨.ref d 0, (d, some (.vr xs)) :: bs⟩) : Okk P N g gB o u := by
  intro w0 a w K Q hR hK
  obtain ⟨ro, β, hR⟩ := hR
  obtain ⟨x0, hc, hx0⟩ := hc
  have hv0 : a.eval x0 = .func (.func f) #[] #[] := rep_v_inv (by have := hR.sv x0; rw [hx0] at this; exact this)
  have hexec : (execOp a.eval o).run P w = .ok (.enter f (c.args.map a.eval)) w := by
    simp only [execOp, hop, resolve, hc, hv0, Deferred.ofValue, Sem.run_bind, Sem.run_pure, Result.andThen_ok, invoke, Array.empty_append, Array.append_empty, List.append_nil]
    exact run_callFunc hF.can _ w
  unfold Oper.wp
  rw [hexec, Oper.upon_enter]
  -- where what is handed back is plain
  have plain : ∀ (s : SV), (∀ (A : Nat → Prop) (w' : World) v, RetRep w w' A v rt → ∀ ro' w'', RepS w'' ro' β v s) → u = ⟨s, []⟩ → Calls P f (c.args.map a.eval) w fun
      | .returned v, w'' => K (a.put o.dst v) w''
      | .panicked chain, w'' => Q (.panic chain) a w''
      | .outgrown, _ => LetsOut Q := fun s hs hus => by
    have hrep : ∃ A : Nat → Prop, (∀ b, A b → b < w.heap.size) ∧ as.length = c.args.toList.length ∧ ∀ (i : Nat) (v : Value) (y : AV), (c.args.toList.map a.eval)[i]? = some v → as[i]? = some y → Rep w A v y := by
      rcases hargs with h | ⟨_, h⟩
      · obtain ⟨h0, h1, h2⟩ := argsF_ok hR _ _ _ h
        exact ⟨_, (hR.freeze h0).roLt, h1, h2⟩
      · obtain ⟨h1, h2⟩ := args_ok hR _ _ h
        exact ⟨_, fun b hb => hR.seenLt hb, h1, h2⟩
    obtain ⟨A, hA, h1, h2⟩ := hrep
    refine (hF.runs as rt hG (c.args.map a.eval) w A hA (by simp [h1]) (fun i v y hv hy => h2 i v y (by simpa using hv) hy)).mono fun e w' ⟨v, he, hb, hret⟩ => ?_
    subst he
    have h3 := (hR.after hb fun _ => False).put hd (hs A w' v hret _ _)
    rw [hus] at hK
    exact hK _ _ ⟨_, _, h3⟩
  have full : ∀ (s : SV), argsF g gB c.args.toList = some (as, bs) → (∀ (A : Nat → Prop) (w' : World) v, RetRep w w' A v rt → RepS w' (fresh w w' A) β v s) → u = ⟨s, bs⟩ → Calls P f (c.args.map a.eval) w fun
      | .returned v, w'' => K (a.put o.dst v) w''
      | .panicked chain, w'' => Q (.panic chain) a w''
      | .outgrown, _ => LetsOut Q := fun s hargs hs hus => by
    obtain ⟨h0, h1, h2⟩ := argsF_ok hR _ _ _ hargs
    have hF' := hR.freeze h0
    refine (hF.runs as rt hG (c.args.map a.eval) w _ hF'.roLt (by simp [h1]) (fun i v y hv hy => h2 i v y (by simpa using hv) hy)).mono fun e w' ⟨v, he, hb, hret⟩ => ?_
    subst he
    have h3 := (hF'.after hb fun _ => False).put hd (RepS.mono (fun b hb => hb.imp id (fun h => ⟨h.1, h.2, by simp⟩)) (fun _ _ => rfl) (fun _ _ h => h) (hs _ w' v hret))
    rw [hus] at hK
    exact hK _ _ ⟨_, _, h3⟩
  rcases hu with ⟨y, rfl, ⟨hp, hu⟩ | ⟨ha, hu⟩⟩ | ⟨xs, rfl, ⟨hp, hu⟩ | ⟨ha, hu⟩⟩ | ⟨t, e, l, d, rfl, hargs, hdst, hgB, rfl⟩ | ⟨t, e, l, d, rfl, hpe, hdst, hgB, rfl⟩ | ⟨xs, d, rfl, hargs, hdst, hgB, rfl⟩
  · exact plain (.p y) (fun A w' v hv ro' w'' => rep_plain (show Rep w' (fresh w w' A) v y from hv) hp) hu
  · exact full (.p y) ha (fun A w' v hv => hv) hu
  · exact plain (.tup xs) (fun A w' v ⟨vs, h1, h2, h3⟩ ro' w'' => ⟨vs, h1, h2, fun i v y hv hy => rep_plain (h3 i v y hv hy) (List.all_eq_true.1 hp y (List.mem_of_getElem? hy))⟩) hu
  · exact full (.tup xs) ha (fun A w' v hv => hv) hu
  · obtain ⟨h0, h1, h2⟩ := argsF_ok hR _ _ _ hargs
    have hF' := hR.freeze h0
    refine (hF.runs as (.own t e l) hG (c.args.map a.eval) w _ hF'.roLt (by simp [h1]) (fun i v y hv hy => h2 i v y (by simpa using hv) hy)).mono fun ee w' ⟨v, he, hb, hret⟩ => ?_
    subst he
    obtain ⟨xs, hown, hcells⟩ := hret
    have hgrow : w.grownBy w' none := ⟨hb.os, hb.tape, hb.output, hb.size, fun k hk _ => hb.block k hk⟩
    have hd' : updB gB bs d = none := by
      unfold updB
      cases hbb : getB bs d with
      | none => exact hgB
      | some r => obtain ⟨t, e, l, _, hl⟩ := h0 d r (getB_some hbb); rw [hgB] at hl; cases hl
    have h3 := hF'.grow (d := d) (x := .row t e l) (k := { v := v, own := v.ownBlock, t := t, z := e.z, n := l.length }) (w' := w') (ro' := fun b => rof gB ro β bs b ∨ (w.heap.size ≤ b ∧ b < w'.heap.size ∧ v.ownBlock ≠ some b)) (row := none) (gs := []) hd' (.inl (hd d hdst)) (fun _ _ h => by cases h) hgrow hb.drawn (fun b h => by cases h) (fun b hb => .inl hb) (fun b hb => hb)
      (by
        refine ⟨rfl, rfl, rfl, rfl, xs, own_base hown (Nat.zero_le _), fun j c hj hc => ?_⟩
        obtain ⟨u, hu, hr⟩ := hcells j c hj hc
        exact ⟨u, hu, hr.mono (fun b hb => hb.1.imp id (fun h => ⟨h.1, h.2, hb.2⟩)) (fun _ _ => rfl)⟩)
      (fun b hb' => .inl (hown.lt b (owns_own rfl hb'))) (fun b q hb' => (hown.lt b (owns_own rfl hb')).2)
    rw [← updB_cons] at h3
    exact hK _ _ ⟨_, _, h3.put hd ⟨_, by simp [setβ]; rfl, rfl⟩⟩
  · have hrep : ∃ A : Nat → Prop, (∀ b, A b → b < w.heap.size) ∧ as.length = c.args.toList.length ∧ ∀ (i : Nat) (v : Value) (y : AV), (c.args.toList.map a.eval)[i]? = some v → as[i]? = some y → Rep w A v y := by
      rcases hargs with h | ⟨_, h⟩
      · obtain ⟨h0, h1, h2⟩ := argsF_ok hR _ _ _ h
        exact ⟨_, (hR.freeze h0).roLt, h1, h2⟩
      · obtain ⟨h1, h2⟩ := args_ok hR _ _ h
        exact ⟨_, fun b hb => hR.seenLt hb, h1, h2⟩
    obtain ⟨A, hA, h1, h2⟩ := hrep
    refine (hF.runs as (.own t e l) hG (c.args.map a.eval) w A hA (by simp [h1]) (fun i v y hv hy => h2 i v y (by simpa using hv) hy)).mono fun ee w' ⟨v, he, hb, hret⟩ => ?_
    subst he
    obtain ⟨xs, hown, hcells⟩ := hret
    have hgrow : w.grownBy w' none := ⟨hb.os, hb.tape, hb.output, hb.size, fun k hk _ => hb.block k hk⟩
    have h3 := hR.grow (d := d) (x := .row t e l) (k := { v := v, own := v.ownBlock, t := t, z := e.z, n := l.length }) (w' := w') (ro' := fun b => ro b ∨ (w.heap.size ≤ b ∧ b < w'.heap.size ∧ v.ownBlock ≠ some b)) (row := none) (gs := []) hgB (.inl (hd d hdst)) (fun _ _ h => by cases h) hgrow hb.drawn (fun b h => by cases h) (fun b hb => .inl hb) (fun b hb => hb)
      (by
        refine ⟨rfl, rfl, rfl, rfl, xs, own_base hown (Nat.zero_le _), fun j c hj hc => ?_⟩
        obtain ⟨u, hu, hr⟩ := hcells j c hj hc
        refine ⟨u, hu, rep_plain hr ?_⟩
        cases e with
        | i k => simp only [El.cell, plainA]
        | s4 => simp only [El.cell]; split <;> rfl
        | rows => cases hpe
        | tree => cases hpe
        | num => cases hpe
        | i2 => simp only [El.cell]; split <;> rfl
        | rt => cases hpe)
      (fun b hb' => .inl (hown.lt b (owns_own rfl hb'))) (fun b q hb' => (hown.lt b (owns_own rfl hb')).2)
    exact hK _ _ ⟨_, _, h3.put hd ⟨_, by simp [setβ]; rfl, rfl⟩⟩
  · obtain ⟨h0, h1, h2⟩ := argsF_ok hR _ _ _ hargs
    have hF' := hR.freeze h0
    refine (hF.runs as (.var xs) hG (c.args.map a.eval) w _ hF'.roLt (by simp [h1]) (fun i v y hv hy => h2 i v y (by simpa using hv) hy)).mono fun ee w' ⟨v, he, hb, hret⟩ => ?_
    subst he
    obtain ⟨b, cs, t, hv, hb1, hb2, hheap, hsz, hcells⟩ := hret
    have hgrow : w.grownBy w' none := ⟨hb.os, hb.tape, hb.output, hb.size, fun k hk _ => hb.block k hk⟩
    have hd' : updB gB bs d = none := by
      unfold updB
      cases hbb : getB bs d with
      | none => exact hgB
      | some r => obtain ⟨t, e, l, _, hl⟩ := h0 d r (getB_some hbb); rw [hgB] at hl; cases hl
    have h3 := hF'.grow (d := d) (x := .vr xs) (k := { v := v, own := some b }) (w' := w') (ro' := fun b' => rof gB ro β bs b' ∨ (w.heap.size ≤ b' ∧ b' < w'.heap.size ∧ b ≠ b')) (row := none) (gs := []) hd' (.inl (hd d hdst)) (fun _ _ h => by cases h) hgrow hb.drawn (fun b h => by cases h) (fun b hb => .inl hb) (fun b' hb => hb.imp id fun h => ⟨h.1, h.2.1, fun e => h.2.2 (by cases e; rfl)⟩)
      (by
        refine ⟨b, cs, t, rfl, hheap, hsz, fun i y hy => ?_⟩
        obtain ⟨u, hu, hr⟩ := hcells i y hy
        exact ⟨u, hu, hr.mono (fun b hb => hb.1.imp id (fun h => ⟨h.1, h.2, hb.2⟩)) (fun _ _ => rfl)⟩)
      (fun b' hb' => by have := owns_own rfl hb'; cases this; exact .inl ⟨hb1, hb2⟩) (fun b' q hb' => by have := owns_own rfl hb'; cases this; exact hb2)
    rw [← updB_cons] at h3
    exact hK _ _ ⟨_, _, h3.put hd ⟨_, b, by simp [setβ]; rfl, rfl, hv⟩⟩

/-- a call that hands back a solid of its own. -/
theorem ok_callD {c : Call} {f : FuncId} {as : List AV} {bs : Bxs} {G : List AV → Option Rt} {xs : List Value} {ys : Option (List Value)} {l : List Tree} {d : Nat} (hop : o.op = .call c) (hc : c.callee = .value (.func f)) (hF : Fun P f G) (hG : G as = some (.deep xs ys l)) (hd : ∀ d, o.dst = some d → d < N)
    (hargs : argsF g gB c.args.toList = some (as, bs) ∨ args g gB c.args.toList = some as) (hdst : o.dst = some d) (hgB : gB d = none) : Okk P N g gB o ⟨dpS d xs ys, [(d, some (.kids l))]⟩ := by
  intro w0 a w K Q hR hK
  obtain ⟨ro, β, hR⟩ := hR
  have hexec : (execOp a.eval o).run P w = .ok (.enter f (c.args.map a.eval)) w := by
    simp only [execOp, hop, resolve, hc, Act.eval, Deferred.ofValue, Sem.run_bind, Sem.run_pure, Result.andThen_ok, invoke, Array.empty_append, Array.append_empty, List.append_nil]
    exact run_callFunc hF.can _ w
  unfold Oper.wp
  rw [hexec, Oper.upon_enter]
  have hrep : ∃ A : Nat → Prop, (∀ b, A b → b < w.heap.size) ∧ as.length = c.args.toList.length ∧ ∀ (i : Nat) (v : Value) (y : AV), (c.args.toList.map a.eval)[i]? = some v → as[i]? = some y → Rep w A v y := by
    rcases hargs with h | h
    · obtain ⟨h0, h1, h2⟩ := argsF_ok hR _ _ _ h
      exact ⟨_, (hR.freeze h0).roLt, h1, h2⟩
    · obtain ⟨h1, h2⟩ := args_ok hR _ _ h
      exact ⟨_, fun b hb => hR.seenLt hb, h1, h2⟩
  obtain ⟨A, hA, h1, h2⟩ := hrep
  refine (hF.runs as _ hG (c.args.map a.eval) w A hA (by simp [h1]) (fun i v y hv hy => h2 i v y (by simpa using hv) hy)).mono fun ee w' ⟨v, he, hb, hret⟩ => ?_
  subst he
  obtain ⟨fp, kv, rfl, hown, hnd, hfp⟩ := hret
  have hgrow : w.grownBy w' none := ⟨hb.os, hb.tape, hb.output, hb.size, fun k hk _ => hb.block k hk⟩
  have h3 := hR.grow (d := d) (x := .kids l) (k := { v := kv, own := none, fp := fp }) (w' := w') (ro' := ro) (row := none) (gs := []) hgB (.inl (hd d hdst)) (fun _ _ h => by cases h) hgrow hb.drawn (fun b h => by cases h) (fun b hb => hb) (fun b hb => .inl hb) ⟨hown, hnd⟩
    (fun b hb' => .inl (hfp b hb')) (fun b q hb' => by
      cases q with
      | one => cases hb'
      | fro => exact hb'.elim
      | deep => exact (hfp b hb').2)
  refine hK _ _ ⟨_, _, h3.put hd ?_⟩
  cases ys with
  | none => exact ⟨_, by simp [setβ]; rfl, rfl⟩
  | some ys => exact ⟨_, by simp [setβ]; rfl, rfl⟩
theorem solOf_eq {xs : List Value} {b : Bool} {p : S4} (h : solOf xs = some (b, p)) : xs = [.bool b, .int .i64 p.a, .int .i64 p.b, .int .i64 p.c, .int .i64 p.d] := by
  unfold solOf at h
  split at h
  · cases h; rfl
  · cases h
theorem solA_eq {ys : List AV} {b : Bool} {p : S4} (h : solA ys = some (b, p)) : ∃ y, ys = [.v (.bool b), .v (.int .i64 p.a), .v (.int .i64 p.b), .v (.int .i64 p.c), .v (.int .i64 p.d), y] ∧ (y = .sl .tree [] ∨ y = .v (.slice none 0 0)) := by
  unfold solA at h
  split at h
  · cases h; exact ⟨_, rfl, .inl rfl⟩
  · cases h; exact ⟨_, rfl, .inr rfl⟩
  · cases h
theorem rep_nilK {w : World} {ro : Nat → Prop} {v : Value} {y : AV} (h : Rep w ro v y) (hy : y = .sl .tree [] ∨ y = .v (.slice none 0 0)) : OwnK w [] v [] := by
  rcases hy with rfl | rfl
  · cases h with
    | sl A cap e l vals hcap hnil => exact .nil A cap hnil
  · cases h; exact .nil none 0 fun _ => rfl
theorem rep_sol {w : World} {ro : Nat → Prop} {v : Value} {a : AV} {b : Bool} {p : S4} (h : Rep w ro v a) (ha : aggA a = true) (hs : solA (cellsA a) = some (b, p)) : SolV w [] v (.mk b p []) := by
  obtain ⟨y, e, hy⟩ := solA_eq hs
  obtain ⟨cs, rfl⟩ := rep_aggA h ha
  obtain ⟨hn, hc⟩ := cells_rep h
  rw [e] at hn hc
  have hn : cs.size = 6 := hn
  have hc : ∀ (i : Nat) (v : Value) (z : AV), cs[i]? = some v → ([AV.v (.bool b), .v (.int .i64 p.a), .v (.int .i64 p.b), .v (.int .i64 p.c), .v (.int .i64 p.d), y])[i]? = some z → Rep w ro v z := hc
  have g : ∀ i : Nat, (hi : i < 6) → ∀ x, ([AV.v (.bool b), .v (.int .i64 p.a), .v (.int .i64 p.b), .v (.int .i64 p.c), .v (.int .i64 p.d), y])[i]? = some (.v x) → cs[i]? = some x := fun i hi x hx => by
    have h1 : cs[i]? = some cs[i] := by simp
    have := rep_v_inv (hc i _ _ h1 hx)
    rw [h1, this]
  obtain ⟨kv, hkv⟩ : ∃ kv, cs[5]? = some kv := ⟨cs[5], by simp [hn]⟩
  refine ⟨kv, ?_, rep_nilK (hc 5 kv y hkv rfl) hy, List.nodup_nil⟩
  congr 1
  apply Array.ext_getElem?
  intro i
  match i with
  | 0 => exact g 0 (by omega) _ rfl
  | 1 => exact g 1 (by omega) _ rfl
  | 2 => exact g 2 (by omega) _ rfl
  | 3 => exact g 3 (by omega) _ rfl
  | 4 => exact g 4 (by omega) _ rfl
  | 5 => exact hkv
  | i + 6 => simp [hn]
theorem R0.ndA {w0 : Base} {a : Act} {w : World} {ro : Nat → Prop} {β : Nat → Option Blk} (hR : R0 w0 N g gB a w ro β) {x : Operand} {t : Tree} {i : Option Nat} (h : ndA g gB x = some (t, i)) :
    ∃ fp, SolV w fp (a.eval x) t ∧ (fp = [] ∧ i = none ∨ ∃ id k l, i = some id ∧ gB id = some (some (.kids l)) ∧ β id = some k ∧ k.fp = fp) := by
  have hs := hR.sv x
  unfold Ev.ndA at h
  split at h
  · rename_i id xs hx
    rw [hx] at hs
    split at h
    · rename_i l b p hb hso
      cases h
      obtain ⟨k, hk, hrep, _⟩ := hR.box id _ hb
      obtain ⟨k', hk', hv⟩ := hs
      rw [hk] at hk'; cases hk'
      refine ⟨k.fp, ⟨k.v, ?_, hrep.1, hrep.2⟩, .inr ⟨id, k, l, rfl, hb, hk, rfl⟩⟩
      rw [hv, solOf_eq hso]; rfl
    · cases h
  · rename_i y hx
    rw [hx] at hs
    split at h
    · rename_i b p ha hso
      cases h
      exact ⟨[], rep_sol hs ha hso, .inl ⟨rfl, rfl⟩⟩
    · cases h
  · cases h
theorem R0.plA {w0 : Base} {a : Act} {w : World} {ro : Nat → Prop} {β : Nat → Option Blk} (hR : R0 w0 N g gB a w ro β) {x : Operand} {p : S4} (h : plA (Ev.sv g x) = some p) : a.eval x = .agg #[.int .i64 p.a, .int .i64 p.b, .int .i64 p.c, .int .i64 p.d] := by
  have hs := hR.sv x
  unfold Ev.plA at h
  split at h
  · rename_i y hx
    rw [hx] at hs
    split at h
    · rename_i x1 x2 x3 x4 ha e
      cases h
      have hs : Rep w ro (a.eval x) y := hs
      obtain ⟨cs, hcs⟩ := rep_aggA hs ha
      rw [hcs] at hs ⊢
      obtain ⟨hn, hc⟩ := cells_rep hs
      rw [e] at hn hc
      have hn : cs.size = 4 := hn
      have hc : ∀ (i : Nat) (v : Value) (z : AV), cs[i]? = some v → ([AV.v (.int .i64 x1), .v (.int .i64 x2), .v (.int .i64 x3), .v (.int .i64 x4)])[i]? = some z → Rep w ro v z := hc
      have g : ∀ i : Nat, (hi : i < 4) → ∀ x, ([AV.v (.int .i64 x1), .v (.int .i64 x2), .v (.int .i64 x3), .v (.int .i64 x4)])[i]? = some (.v x) → cs[i]? = some x := fun i hi x hx => by
        have h1 : cs[i]? = some cs[i] := by simp
        have := rep_v_inv (hc i _ _ h1 hx)
        rw [h1, this]
      congr 1
      apply Array.ext_getElem?
      intro i
      match i with
      | 0 => exact g 0 (by omega) _ rfl
      | 1 => exact g 1 (by omega) _ rfl
      | 2 => exact g 2 (by omega) _ rfl
      | 3 => exact g 3 (by omega) _ rfl
      | i + 4 => simp [hn]
    · cases h
  · cases h
/-- a call that makes a node. -/
theorem ok_callN {c : Call} {f : FuncId} {x y z : Operand} {p : S4} {t1 t2 : Tree} {i1 i2 : Option Nat} {gs : Bxs} {d : Nat} (hop : o.op = .call c) (hc : c.callee = .value (.func f)) (hF : FunN P f) (hd : ∀ d, o.dst = some d → d < N)
    (hargs : c.args.toList = [x, y, z]) (hdst : o.dst = some d) (hgB : gB d = none) (hp : plA (Ev.sv g x) = some p) (h1 : ndA g gB y = some (t1, i1)) (h2 : ndA g gB z = some (t2, i2)) (hgs : ndG i1 i2 = some gs) : Okk P N g gB o ⟨.kv d [.bool false, .int .i64 p.a, .int .i64 p.b, .int .i64 p.c, .int .i64 p.d], (d, some (.kids [t1, t2])) :: gs⟩ := by
  intro w0 a w K Q hR hK
  obtain ⟨ro, β, hR⟩ := hR
  have hexec : (execOp a.eval o).run P w = .ok (.enter f (c.args.map a.eval)) w := by
    simp only [execOp, hop, resolve, hc, Act.eval, Deferred.ofValue, Sem.run_bind, Sem.run_pure, Result.andThen_ok, invoke, Array.empty_append, Array.append_empty, List.append_nil]
    exact run_callFunc hF.can _ w
  unfold Oper.wp
  rw [hexec, Oper.upon_enter]
  have hargs' : c.args.map a.eval = #[.agg #[.int .i64 p.a, .int .i64 p.b, .int .i64 p.c, .int .i64 p.d], a.eval y, a.eval z] := by
    apply Array.ext'
    rw [Array.toList_map, hargs]
    simp [hR.plA hp]
  rw [hargs']
  obtain ⟨fp1, s1, q1⟩ := hR.ndA h1
  obtain ⟨fp2, s2, q2⟩ := hR.ndA h2
  have lt : ∀ (fp : List Nat) (i : Option Nat), (fp = [] ∧ i = none ∨ ∃ id k l, i = some id ∧ gB id = some (some (.kids l)) ∧ β id = some k ∧ k.fp = fp) → ∀ b ∈ fp, b < w.heap.size := fun fp i hq b hb => by
    rcases hq with ⟨rfl, _⟩ | ⟨id, k, l, _, hb', hk, rfl⟩
    · cases hb
    · exact hR.βLt id k b .deep hk hb
  have l1 : ∀ a, i1 = some a → ∃ y, gB a = some (some y) := fun a e => by
    rcases q1 with ⟨_, e'⟩ | ⟨id, k, l, e', hb', _⟩
    · rw [e] at e'; cases e'
    · rw [e] at e'; cases e'; exact ⟨_, hb'⟩
  have l2 : ∀ a, i2 = some a → ∃ y, gB a = some (some y) := fun a e => by
    rcases q2 with ⟨_, e'⟩ | ⟨id, k, l, e', hb', _⟩
    · rw [e] at e'; cases e'
    · rw [e] at e'; cases e'; exact ⟨_, hb'⟩
  have hgs' : (∀ id r, (id, r) ∈ gs → r = none ∧ ∃ y, gB id = some (some y)) ∧ (∀ a, i1 = some a → (a, (none : Option Box)) ∈ gs) ∧ (∀ a, i2 = some a → (a, (none : Option Box)) ∈ gs) ∧ ∀ a, i1 = some a → i2 ≠ some a := by
    unfold ndG at hgs
    split at hgs
    · cases hgs
      exact ⟨fun _ _ h => by (cases h), fun _ h => by (cases h), fun _ h => by (cases h), fun _ h => by cases h⟩
    · cases hgs
      exact ⟨fun id r hm => by (simp at hm; obtain ⟨rfl, rfl⟩ := hm; exact ⟨rfl, l1 _ rfl⟩), fun _ h => by (cases h; simp), fun _ h => by (cases h), fun _ h e => by cases e⟩
    · cases hgs
      exact ⟨fun id r hm => by (simp at hm; obtain ⟨rfl, rfl⟩ := hm; exact ⟨rfl, l2 _ rfl⟩), fun _ h => by (cases h), fun _ h => by (cases h; simp), fun _ h e => by cases h⟩
    · split at hgs
      · cases hgs
      · rename_i hne
        cases hgs
        refine ⟨fun id r hm => ?_, fun _ h => by (cases h; simp), fun _ h => by (cases h; simp), fun _ h e => by cases h; cases e; rw [beq_iff.2 rfl] at hne; cases hne⟩
        simp at hm
        rcases hm with ⟨rfl, rfl⟩ | ⟨rfl, rfl⟩
        · exact ⟨rfl, l1 _ rfl⟩
        · exact ⟨rfl, l2 _ rfl⟩
  obtain ⟨hgs', mem1, mem2, hne⟩ := hgs'
  have g1 : ∀ b ∈ fp1, gone gB β gs b := fun b hb => by
    rcases q1 with ⟨rfl, _⟩ | ⟨id, k, l, e, hb', hk, rfl⟩
    · cases hb
    · exact ⟨id, k, _, mem1 id e, hb', hk, hb⟩
  have g2 : ∀ b ∈ fp2, gone gB β gs b := fun b hb => by
    rcases q2 with ⟨rfl, _⟩ | ⟨id, k, l, e, hb', hk, rfl⟩
    · cases hb
    · exact ⟨id, k, _, mem2 id e, hb', hk, hb⟩
  have hdis : ∀ b ∈ fp1, b ∉ fp2 := fun b hb hb2 => by
    rcases q1 with ⟨rfl, _⟩ | ⟨id, k, l, e, hb', hk, rfl⟩
    · cases hb
    · rcases q2 with ⟨rfl, _⟩ | ⟨id2, k2, l2, e2, hb2', hk2, rfl⟩
      · cases hb2
      · have := hR.inj id id2 _ _ b k k2 hb' hb2' hk hk2 hb hb2
        subst this
        exact hne _ e e2
  refine (hF.runs w p t1 t2 fp1 fp2 _ _ s1 s2 hdis (lt fp1 i1 q1) (lt fp2 i2 q2)).mono fun ee w' ⟨v, fp, he, hb, hsol, hfp⟩ => ?_
  subst he
  obtain ⟨kv, rfl, hown, hnd⟩ := hsol
  have hgrow : w.grownBy w' none := ⟨hb.os, hb.tape, hb.output, hb.size, fun k hk _ => hb.block k hk⟩
  have h3 := hR.grow (d := d) (x := .kids [t1, t2]) (k := { v := kv, own := none, fp := fp }) (w' := w') (ro' := ro) (row := none) (gs := gs) hgB (.inl (hd d hdst)) hgs' hgrow hb.drawn (fun b h => by cases h) (fun b hb => hb) (fun b hb => .inl hb) ⟨hown, hnd⟩
    (fun b hb' => (hfp b hb').elim (fun h => .inr (g1 b h)) fun h => h.elim (fun h => .inr (g2 b h)) .inl) (fun b q hb' => by
      cases q with
      | one => cases hb'
      | fro => exact hb'.elim
      | deep => exact (hfp b hb').elim (fun h => Nat.lt_of_lt_of_le (lt fp1 i1 q1 b h) hb.size) fun h => h.elim (fun h => Nat.lt_of_lt_of_le (lt fp2 i2 q2 b h) hb.size) fun h => h.2)
  exact hK _ _ ⟨_, _, h3.put hd ⟨_, by simp [setβ]; rfl, rfl⟩⟩

/-! ### rows of rows of one's own -/
theorem ok_callRs {c : Call} {f : FuncId} {as : List AV} {bs : Bxs} {G : List AV → Option Rt} {t te : TypeId} {l : List (List S4)} {d : Nat} (hop : o.op = .call c) (hc : c.callee = .value (.func f)) (hF : Fun P f G) (hG : G as = some (.rows t te l)) (hd : ∀ d, o.dst = some d → d < N)
    (hargs : argsF g gB c.args.toList = some (as, bs) ∨ args g gB c.args.toList = some as) (hdst : o.dst = some d) (hgB : gB d = none) : Okk P N g gB o ⟨.osl d, [(d, some (.rs t te l))]⟩ := by
  intro w0 a w K Q hR hK
  obtain ⟨ro, β, hR⟩ := hR
  have hexec : (execOp a.eval o).run P w = .ok (.enter f (c.args.map a.eval)) w := by
    simp only [execOp, hop, resolve, hc, Act.eval, Deferred.ofValue, Sem.run_bind, Sem.run_pure, Result.andThen_ok, invoke, Array.empty_append, Array.append_empty, List.append_nil]
    exact run_callFunc hF.can _ w
  unfold Oper.wp
  rw [hexec, Oper.upon_enter]
  have hrep : ∃ A : Nat → Prop, (∀ b, A b → b < w.heap.size) ∧ as.length = c.args.toList.length ∧ ∀ (i : Nat) (v : Value) (y : AV), (c.args.toList.map a.eval)[i]? = some v → as[i]? = some y → Rep w A v y := by
    rcases hargs with h | h
    · obtain ⟨h0, h1, h2⟩ := argsF_ok hR _ _ _ h
      exact ⟨_, (hR.freeze h0).roLt, h1, h2⟩
    · obtain ⟨h1, h2⟩ := args_ok hR _ _ h
      exact ⟨_, fun b hb => hR.seenLt hb, h1, h2⟩
  obtain ⟨A, hA, h1, h2⟩ := hrep
  refine (hF.runs as _ hG (c.args.map a.eval) w A hA (by simp [h1]) (fun i v y hv hy => h2 i v y (by simpa using hv) hy)).mono fun ee w' ⟨v, he, hb, hret⟩ => ?_
  subst he
  obtain ⟨fp, hown, hnd, hfp⟩ := hret
  have hgrow : w.grownBy w' none := ⟨hb.os, hb.tape, hb.output, hb.size, fun k hk _ => hb.block k hk⟩
  have h3 := hR.grow (d := d) (x := .rs t te l) (k := { v := v, own := none, fp := fp }) (w' := w') (ro' := ro) (row := none) (gs := []) hgB (.inl (hd d hdst)) (fun _ _ h => by cases h) hgrow hb.drawn (fun b h => by cases h) (fun b hb => hb) (fun b hb => .inl hb) ⟨hown, hnd⟩
    (fun b hb' => .inl (hfp b hb')) (fun b q hb' => by
      cases q with
      | one => cases hb'
      | fro => exact hb'.elim
      | deep => exact (hfp b hb').2)
  exact hK _ _ ⟨_, _, h3.put hd ⟨_, by simp [setβ]; rfl, rfl⟩⟩
theorem fill1 {kv : Value} (hk : kv.cells = #[kv]) {cs : Array Value} (hs : cs.size = 1) : Instr.fill (fun i => some (i * 1, 1)) cs [(0, kv)] = some #[kv] := by
  have h0 : cs.setIfInBounds 0 kv = #[kv] := by
    apply Array.ext_getElem?
    intro i
    rw [Array.getElem?_setIfInBounds]
    cases i with
    | zero => simp [hs]
    | succ i => simp [hs]
  unfold Instr.fill
  simp only [hk]
  have : (decide ((#[kv] : Array Value).size ≠ 1) || decide (0 * 1 + (#[kv] : Array Value).size > cs.size)) = false := by simp [hs]
  rw [this]
  simp only [Bool.false_eq_true, if_false, Instr.fill]
  congr 1
theorem slice_cells {te : TypeId} {w : World} {fp : List Nat} {v : Value} {l : List S4} (h : OwnP te w fp v l) : v.cells = #[v] ∧ v.oneCell' = true := by
  obtain ⟨xs, hx, _⟩ := h
  rcases hx.2 with ⟨e, _⟩ | ⟨g, cap, cur, e, _⟩
  · rw [e]; exact ⟨rfl, rfl⟩
  · rw [e]; exact ⟨rfl, rfl⟩
theorem row_own {w : World} {ro : Nat → Prop} {k : Blk} {te : TypeId} {l : List S4} (h : BoxRep w ro 0 k (.row te .s4 l)) : OwnP te w k.v.ownBlock.toList k.v l ∧ k.own = k.v.ownBlock := by
  obtain ⟨ht, hz, hn, ho, xs, hx, hc⟩ := h
  rw [ht, hn] at hx
  refine ⟨⟨xs, hx, rfl, fun j c hj hc' => ?_⟩, ho⟩
  obtain ⟨x, h1, h2⟩ := hc j c hj hc'
  have : ∃ y, El.cell .s4 (l.getD j default) c = .v y := by
    match c, hc' with
    | 0, _ => exact ⟨_, rfl⟩
    | 1, _ => exact ⟨_, rfl⟩
    | 2, _ => exact ⟨_, rfl⟩
    | 3, _ => exact ⟨_, rfl⟩
  obtain ⟨y, hy⟩ := this
  rw [hy] at h2
  have := rep_v_inv h2
  subst this
  exact ⟨x, h1, hy⟩
theorem nodup_flat : ∀ {n : Nat} {fps : Nat → List Nat}, (∀ i, i < n → (fps i).Nodup) → (∀ i j x, i < n → j < n → x ∈ fps i → x ∈ fps j → i = j) → ((List.range n).flatMap fps).Nodup
  | 0, _, _, _ => by simp
  | n + 1, fps, h1, h2 => by
    rw [List.range_succ, List.flatMap_append, List.nodup_append]
    refine ⟨nodup_flat (fun i hi => h1 i (by omega)) (fun i j x hi hj => h2 i j x (by omega) (by omega)), by simpa using h1 n (by omega), fun x hx y hy e => ?_⟩
    subst e
    obtain ⟨i, hi, hxi⟩ := List.mem_flatMap.1 hx
    have hy : x ∈ fps n := by simpa using hy
    have hi := List.mem_range.1 hi
    have := h2 i n x (by omega) (by omega) hxi hy
    omega
theorem flat_nodup {n : Nat} {fps : Nat → List Nat} (h : ((List.range n).flatMap fps).Nodup) : (∀ i, i < n → (fps i).Nodup) ∧ (∀ i j x, i < n → j < n → x ∈ fps i → x ∈ fps j → i = j) := by
  induction n with
  | zero => exact ⟨fun i hi => absurd hi (Nat.not_lt_zero i), fun i j x hi => absurd hi (Nat.not_lt_zero i)⟩
  | succ n ih =>
    rw [List.range_succ, List.flatMap_append, List.nodup_append] at h
    obtain ⟨h1, h2, h3⟩ := h
    obtain ⟨a1, a2⟩ := ih h1
    have lastq : ∀ y, y ∈ fps n → y ∈ [n].flatMap fps := fun y hy => by simpa using hy
    refine ⟨fun i hi => ?_, fun i j x hi hj hx hx' => ?_⟩
    · by_cases c : i = n
      · subst c; simpa using h2
      · exact a1 i (by omega)
    · by_cases ci : i = n
      · by_cases cj : j = n
        · omega
        · subst ci; exact absurd rfl (h3 x (mem_fps (show j < i by omega) hx') x (lastq x hx))
      · by_cases cj : j = n
        · subst cj; exact absurd rfl (h3 x (mem_fps (show i < j by omega) hx) x (lastq x hx'))
        · exact a2 i j x (by omega) (by omega) hx hx'
theorem ok_bldR {t el : TypeId} {len : Nat} {ps : Array (Nat × Operand)} {d id : Nat} {te : TypeId} {e : El} {l : List S4} (hop : o.op = .buildSlice t len ps) (ho : o.dst = some d) (hN : d < N) (hd : gB d = none)
    (ht : P.underlying t = some (.slice el)) (he : elI P el = some e) (hn : ps.toList.length = len) (hb : bldB g gB e ps.toList = some (id, te, l)) : Okk P N g gB o ⟨.osl d, [(d, some (.rs el te [l])), (id, none)]⟩ := by
  intro w0 a w K Q hR hK
  obtain ⟨ro, β, hR⟩ := hR
  obtain ⟨i, z, hi, hz, hez, hsz, hby, hzc⟩ := elI_spec he
  have hzP : zeroP P el = some z := by simp [zeroP, hi, hz]
  unfold bldB at hb
  split at hb
  · rename_i ii x hps
    split at hb
    · rename_i id0 hi0 hx
      split at hb
      · rename_i te' l' hbx
        cases hb
        have hi0 := beq_iff.1 hi0
        subst hi0
        have h1 := hR.sv x
        rw [hx] at h1
        obtain ⟨k, hk, hv⟩ := h1
        obtain ⟨k', hk', hrep, _⟩ := hR.box id _ hbx
        rw [hk] at hk'; cases hk'
        obtain ⟨hown, hko⟩ := row_own hrep
        obtain ⟨kc, k1⟩ := slice_cells hown
        have hlen : len = 1 := by rw [← hn, hps]; rfl
        subst hlen
        have hps2 : ps = #[(0, x)] := by rw [← Array.toList_inj]; simpa using hps
        subst hps2
        have hz1 : El.rows.z = 1 := rfl
        have hrun : (Instr.buildSlice t 1 ((#[(0, x)] : Array (Nat × Operand)).map fun (i, x) => (i, a.eval x))).run P w = .ok (.slice (some ⟨w.heap.size, 0, none⟩) 1 1) (w.alloc (.cells #[k.v] el)) := by
          unfold Instr.buildSlice
          rw [run_bind_ok (pr_under ht w)]
          simp only
          rw [run_bind_ok (pr_size (n := 1) (by simp [szP, hi, hsz, hz1]) w)]
          rw [if_neg (by decide), if_neg (by decide)]
          have hf : Instr.fill (fun i => some (i * 1, 1)) ((Array.range (1 * 1)).map (z.cells[· % z.cells.size]!)) ((#[(0, x)] : Array (Nat × Operand)).map fun (i, x) => (i, a.eval x)).toList = some #[k.v] := by
            have : ((#[(0, x)] : Array (Nat × Operand)).map fun (i, x) => (i, a.eval x)).toList = [(0, k.v)] := by simp [hv]
            rw [this]
            exact fill1 kc (by simp)
          simp only [Sem.run_bind, pr_zero hzP w, Sem.run_pure, Result.andThen_ok, hf, newRow, run_newObj_alloc]
        have hexec : (execOp a.eval o).run P w = .ok (.value (.slice (some ⟨w.heap.size, 0, none⟩) 1 1)) (w.alloc (.cells #[k.v] el)) := by
          simp only [execOp, hop]
          exact run_val (α := Unit) hrun
        have sz : (w.alloc (.cells #[k.v] el)).heap.size = w.heap.size + 1 := al_size _ _
        have lt0 : ∀ b ∈ k.v.ownBlock.toList, b < w.heap.size := fun b hb => hR.βLt id k b .one hk (hko.trans (mem_own.1 hb))
        have hbox : BoxRep (w.alloc (.cells #[k.v] el)) ro 0 { v := .slice (some ⟨w.heap.size, 0, none⟩) 1 1, own := none, fp := w.heap.size :: k.v.ownBlock.toList } (.rs el te [l]) := by
          refine ⟨⟨[k.v], fun _ => k.v.ownBlock.toList, ownsW_lit w #[k.v] 1 (Nat.zero_le _) (maxLen_ge (by omega)) rfl, by simp [Value.ownBlock], fun j hj => ?_⟩, ?_⟩
          · have : j = 0 := by simp at hj; omega
            subst this
            exact ⟨k.v, rfl, hown.mono fun b hb => Below.heap_alloc w _ b (lt0 b hb)⟩
          · refine List.nodup_cons.2 ⟨fun h => by have := lt0 _ h; omega, ?_⟩
            cases k.v.ownBlock <;> simp
        have h3 := hR.grow (d := d) (x := .rs el te [l]) (k := { v := .slice (some ⟨w.heap.size, 0, none⟩) 1 1, own := none, fp := w.heap.size :: k.v.ownBlock.toList }) (w' := w.alloc (.cells #[k.v] el)) (ro' := ro) (row := none) (gs := [(id, none)]) hd (.inl hN)
          (fun id' r hm => by simp at hm; obtain ⟨rfl, rfl⟩ := hm; exact ⟨rfl, _, hbx⟩) (World.grownBy_alloc w _ none) (run_drawn _ hexec) (fun b h => by cases h) (fun b hb => hb) (fun b hb => .inl hb) hbox
          (fun b hb' => by
            rcases List.mem_cons.1 hb' with rfl | hb'
            · exact .inl ⟨Nat.le_refl _, by omega⟩
            · exact .inr ⟨id, k, _, List.mem_cons_self, hbx, hk, hko.trans (mem_own.1 hb')⟩) (fun b q hb' => by
            cases q with
            | one => cases hb'
            | fro => exact hb'.elim
            | deep =>
              rcases List.mem_cons.1 hb' with rfl | hb'
              · omega
              · have := lt0 b hb'; omega)
        unfold Oper.wp
        rw [hexec]
        exact hK _ _ ⟨_, _, h3.put (fun x hx => by rw [ho] at hx; cases hx; exact hN) ⟨_, by simp [setβ]; rfl, rfl⟩⟩
      · cases hb
    · cases hb
  · cases hb
/-- what an append does to a row of one's own. -/
theorem app_run {t ty el : TypeId} {e : El} (ht : P.underlying t = some (.slice el)) (he : elI P el = some e) {w : World} {vb : Value} {xs : List Value} {n : Nat} (hown : ownsW w 0 el e.z vb n xs) {yv : Value} {m : Nat} {news : List Value}
    (hy : (yv = .slice none 0 0 ∧ m = 0 ∧ news = []) ∨ ∃ ad cap, yv = .slice (some ad) m cap ∧ news.length = m * e.z ∧ (∀ j u, news[j]? = some u → w.cell? (ad.add j) = some u) ∧ ∀ u ∈ news, u.oneCell' = true) (h47 : n + m < 2199023255552) :
    ∃ (v' : Value) (w' : World) (row : Option Nat), (Builtin.append_ #[t, t] ty #[vb, yv]).run P w = .ok v' w' ∧ ownsW w' 0 el e.z v' (n + m) (xs ++ news) ∧ w.grownBy w' row ∧ (∀ b, row = some b → vb.ownBlock = some b) ∧ (∀ b, v'.ownBlock = some b → (w.heap.size ≤ b ∧ b < w'.heap.size) ∨ row = some b) := by
  obtain ⟨i, z, hi, hz, hez, hsz, hby, hzc⟩ := elI_spec he
  have hzpos : 0 < e.z := by cases e <;> simp [El.z]
  rcases hy with ⟨rfl, rfl, rfl⟩ | ⟨ad, cap, rfl, hnl, hnc, hn1⟩
  · refine ⟨vb, w, vb.ownBlock, ?_, by simpa using hown, ⟨rfl, rfl, rfl, Nat.le_refl _, fun _ _ _ => rfl⟩, fun b hb => hb, fun b hb => .inr hb⟩
    exact run_appendW_none w 0 t ty el i e.z ht hi vb n xs hown
  · have fresh : ∀ (v' : Value) (w' : World) (n : Nat) (zs : List Value), ownsW w' w.heap.size el e.z v' n zs → ∀ b, v'.ownBlock = some b → (w.heap.size ≤ b ∧ b < w'.heap.size) ∨ (none : Option Nat) = some b := fun v' w' n zs h b hb => .inl (h.lt b hb)
    rcases hown.2 with ⟨hv, hl0⟩ | ⟨gg, cp, cur, hv, hb, hh, hcap, hmax, hcs, htk⟩
    · have hx0 : xs = [] := List.eq_nil_of_length_eq_zero (by rw [hown.1, hl0, Nat.zero_mul])
      obtain ⟨v', w', h1, h2, h3, _⟩ := run_append_own (P := P) w w.heap.size t ty el i z e.z i.bytes ht hi hz hsz rfl hzc hzpos (.slice none 0 0) 0 [] (World.ownsRow_nil _ _ _ _) ad m cap news hnl hnc hn1 (maxLen_ge (by omega)) (bound_app (by omega) hby) (Nat.le_refl _)
      refine ⟨v', w', none, by rw [hv]; exact h1, ?_, h3, fun b hb => (by cases hb), fresh _ _ _ _ (.ofRow h2)⟩
      rw [hl0, hx0]; exact own_base (.ofRow h2) (Nat.zero_le _)
    · by_cases hroom : n + m ≤ cp
      · obtain ⟨w', h1, h2, h3⟩ := run_appendW_fits (P := P) w 0 t ty el i e.z ht hi hsz gg n cp xs (hv ▸ hown) ad m cap news hnl hnc hn1 hroom
        exact ⟨_, w', some gg, by rw [hv]; exact h1, h2, h3, fun b hb => by rw [hv]; exact hb, fun b hb => .inr hb⟩
      · obtain ⟨v', w', h1, h2, h3⟩ := run_append_arg_grows (P := P) w t ty el i z e.z i.bytes ht hi hz hsz rfl hzc hzpos ⟨gg, 0, none⟩ n cp xs hown.1 (hown.cells (by rw [hv]; rfl)) ad m cap news hnl hnc (by omega) (maxLen_ge (by omega)) (bound_app h47 hby)
        exact ⟨v', w', none, by rw [hv]; exact h1, own_base (.ofRow h2) (Nat.zero_le _), h3, fun b hb => (by cases hb), fresh _ _ _ _ (.ofRow h2)⟩
theorem appB_spec {e : El} {x y : Operand} {id id' : Nat} {t te : TypeId} {l l' : List (List S4)} (h : appB g gB e x y = some (id, id', t, te, l, l')) : e = .rows ∧ sv g x = .osl id ∧ sv g y = .osl id' ∧ gB id = some (some (.rs t te l)) ∧ gB id' = some (some (.rs t te l')) ∧ id ≠ id' := by
  unfold appB at h
  split at h
  · rename_i hx hy
    split at h
    · rename_i h1 h2
      split at h
      · rename_i e1 e2 e3
        cases h
        have e1 := beq_iff.1 e1; have e2 := beq_iff.1 e2
        subst e1 e2
        refine ⟨rfl, hx, hy, h1, h2, fun e => by subst e; rw [beq_iff.2 rfl] at e3; cases e3⟩
      · cases h
    · cases h
  · cases h
theorem ok_appR {x y : Operand} {c : Call} {t el : TypeId} {d id id' : Nat} {e : El} {t1 te : TypeId} {l l' : List (List S4)} (hop : o.op = .call c) (hc : c.callee = .builtin .append) (hargs : c.args.toList = [x, y]) (hty : c.argTypes.toList = [t, t]) (ho : o.dst = some d) (hN : d < N) (hd : gB d = none)
    (ht : P.underlying t = some (.slice el)) (he : elI P el = some e) (hab : appB g gB e x y = some (id, id', t1, te, l, l')) (h1 : t1 = el) (h47 : lt47 (l.length + l'.length) = true) : Okk P N g gB o ⟨.osl d, [(d, some (.rs el te (l ++ l'))), (id, none), (id', none)]⟩ := by
  intro w0 a w K Q hR hK
  obtain ⟨ro, β, hR⟩ := hR
  obtain ⟨rfl, hx, hy, hbx, hby', hne⟩ := appB_spec hab
  subst h1
  have h47' : l.length + l'.length < 2199023255552 := lt47_iff.1 h47
  have s1 := hR.sv x
  have s2 := hR.sv y
  rw [hx] at s1; rw [hy] at s2
  obtain ⟨k, hk, hv⟩ := s1
  obtain ⟨k2, hk2, hv2⟩ := s2
  obtain ⟨k', hk', ⟨⟨xs, fps, ow1, hfp1, in1⟩, nd1⟩, _⟩ := hR.box id _ hbx
  rw [hk] at hk'; cases hk'
  obtain ⟨k', hk', ⟨⟨ys, gps, ow2, hfp2, in2⟩, nd2⟩, _⟩ := hR.box id' _ hby'
  rw [hk2] at hk'; cases hk'
  have lt1 : ∀ b ∈ k.fp, b < w.heap.size := fun b hb => hR.βLt id k b .deep hk hb
  have lt2 : ∀ b ∈ k2.fp, b < w.heap.size := fun b hb => hR.βLt id' k2 b .deep hk2 hb
  have dis : ∀ b, b ∈ k.fp → b ∈ k2.fp → False := fun b h1 h2 => hne (hR.inj id id' _ _ b k k2 hbx hby' hk hk2 h1 h2)
  have hz1 : El.rows.z = 1 := rfl
  have hnews : (k2.v = .slice none 0 0 ∧ l'.length = 0 ∧ ys = []) ∨ ∃ ad cap, k2.v = .slice (some ad) l'.length cap ∧ ys.length = l'.length * El.rows.z ∧ (∀ j u, ys[j]? = some u → w.cell? (ad.add j) = some u) ∧ ∀ u ∈ ys, u.oneCell' = true := by
    rcases ow2.2 with ⟨e, e0⟩ | ⟨g', cap, cur, e, h3, h4, h5, h6, h7, h8⟩
    · exact .inl ⟨e, e0, List.eq_nil_of_length_eq_zero (by rw [ow2.1, e0])⟩
    · refine .inr ⟨⟨g', 0, none⟩, cap, e, ow2.1, fun j u hu => ow2.cells (by rw [e]; rfl) j u hu, fun u hu => ?_⟩
      obtain ⟨j, hj, rfl⟩ := List.getElem_of_mem hu
      have hj' : j < l'.length := by have := ow2.1; omega
      obtain ⟨u, hu, ho⟩ := in2 j hj'
      rw [List.getElem?_eq_getElem hj] at hu; cases hu
      exact (slice_cells ho).2
  obtain ⟨v', w', row, hrun, hown', hg, hrow1, hfresh⟩ := app_run (ty := o.type) ht he ow1 hnews h47'
  have hexec : (execOp a.eval o).run P w = .ok (.value v') w' := by
    have hargs' : c.args = #[x, y] := by rw [← Array.toList_inj]; simpa using hargs
    have hty' : c.argTypes = #[t, t] := by rw [← Array.toList_inj]; simpa using hty
    simp only [execOp, hop, resolve, hc, hargs', hty', List.map_toArray, List.map_cons, List.map_nil, Sem.run_bind, Sem.run_pure, Result.andThen_ok, invoke, builtin, hv, hv2, hrun]
  -- the blocks within
  have rowin : ∀ b, row = some b → b ∈ k.fp ∧ ∀ j, j < l.length → b ∉ fps j := fun b hb => by
    have h1 := hrow1 b hb
    refine ⟨by rw [hfp1]; exact List.mem_append_left _ (mem_own.2 h1), fun j hj h => ?_⟩
    rw [hfp1, List.nodup_append] at nd1
    exact nd1.2.2 b (mem_own.2 h1) b (mem_fps hj h) rfl
  have inn1 : ∀ j, j < l.length → ∀ b ∈ fps j, b ∈ k.fp := fun j hj b hb => by rw [hfp1]; exact List.mem_append_right _ (mem_fps hj hb)
  have inn2 : ∀ j, j < l'.length → ∀ b ∈ gps j, b ∈ k2.fp := fun j hj b hb => by rw [hfp2]; exact List.mem_append_right _ (mem_fps hj hb)
  let hps : Nat → List Nat := fun j => if j < l.length then fps j else gps (j - l.length)
  have hpsIn : ∀ j, j < (l ++ l').length → ∀ b ∈ hps j, (j < l.length ∧ b ∈ fps j ∧ b ∈ k.fp) ∨ (¬ j < l.length ∧ b ∈ gps (j - l.length) ∧ b ∈ k2.fp) := fun j hj b hb => by
    rw [List.length_append] at hj
    simp only [hps] at hb
    by_cases c : j < l.length
    · rw [if_pos c] at hb; exact .inl ⟨c, hb, inn1 j c b hb⟩
    · rw [if_neg c] at hb; exact .inr ⟨c, hb, inn2 _ (by omega) b hb⟩
  have same : ∀ b, b ∈ k.fp ∨ b ∈ k2.fp → row ≠ some b → w'.heap[b]? = w.heap[b]? := fun b hb hr => hg.block b (hb.elim (lt1 b) (lt2 b)) (fun e => hr e.symm)
  have nd1' := nd1; have nd2' := nd2
  rw [hfp1, List.nodup_append] at nd1'
  rw [hfp2, List.nodup_append] at nd2'
  obtain ⟨a1, a2⟩ := flat_nodup nd1'.2.1
  obtain ⟨b1, b2⟩ := flat_nodup nd2'.2.1
  have rowne : ∀ j, j < (l ++ l').length → ∀ b ∈ hps j, row ≠ some b := fun j hj b hb e => by
    rcases hpsIn j hj b hb with ⟨c, h1, h2⟩ | ⟨c, h1, h2⟩
    · exact (rowin b e).2 j c h1
    · exact dis b (rowin b e).1 h2
  have hlA : ∀ j, j < l.length → (l ++ l').getD j default = l.getD j default := fun j hj => by simp [List.getElem?_append_left hj]
  have hlB : ∀ j, ¬ j < l.length → (l ++ l').getD j default = l'.getD (j - l.length) default := fun j hj => by simp [List.getElem?_append_right (show l.length ≤ j by omega)]
  have xl : xs.length = l.length := by rw [ow1.1]; exact Nat.mul_one _
  have hbox : BoxRep w' ro 0 { v := v', own := none, fp := v'.ownBlock.toList ++ (List.range (l ++ l').length).flatMap hps } (.rs t1 te (l ++ l')) := by
    refine ⟨⟨xs ++ ys, hps, by rw [List.length_append]; exact hown', rfl, fun j hj => ?_⟩, ?_⟩
    · by_cases c : j < l.length
      · obtain ⟨u, hu, ho⟩ := in1 j c
        refine ⟨u, by rw [List.getElem?_append_left (by omega)]; exact hu, ?_⟩
        rw [hlA j c]
        have e : hps j = fps j := if_pos c
        rw [e]
        exact ho.mono fun b hb => same b (.inl (inn1 j c b hb)) (rowne j hj b (by rw [e]; exact hb))
      · have hj' : j - l.length < l'.length := by rw [List.length_append] at hj; omega
        obtain ⟨u, hu, ho⟩ := in2 _ hj'
        refine ⟨u, by rw [List.getElem?_append_right (by omega), xl]; exact hu, ?_⟩
        rw [hlB j c]
        have e : hps j = gps (j - l.length) := if_neg c
        rw [e]
        exact ho.mono fun b hb => same b (.inr (inn2 _ hj' b hb)) (rowne j hj b (by rw [e]; exact hb))
    · refine List.nodup_append.2 ⟨by cases v'.ownBlock <;> simp, nodup_flat (fun i hi => ?_) (fun i j x hi hj hx hx' => ?_), fun x hx y hy e => ?_⟩
      · by_cases c : i < l.length
        · rw [show hps i = fps i from if_pos c]; exact a1 i c
        · rw [show hps i = gps (i - l.length) from if_neg c]; exact b1 _ (by rw [List.length_append] at hi; omega)
      · rw [List.length_append] at hi hj
        rcases hpsIn i (by rw [List.length_append]; exact hi) x hx with ⟨c, q1, q2⟩ | ⟨c, q1, q2⟩
        · rcases hpsIn j (by rw [List.length_append]; exact hj) x hx' with ⟨c', r1, r2⟩ | ⟨c', r1, r2⟩
          · exact a2 i j x c c' q1 r1
          · exact (dis x q2 r2).elim
        · rcases hpsIn j (by rw [List.length_append]; exact hj) x hx' with ⟨c', r1, r2⟩ | ⟨c', r1, r2⟩
          · exact (dis x r2 q2).elim
          · have := b2 (i - l.length) (j - l.length) x (by omega) (by omega) q1 r1
            omega
      · subst e
        obtain ⟨j, hj, hxj⟩ := List.mem_flatMap.1 hy
        have hj := List.mem_range.1 hj
        rcases hfresh x (mem_own.1 hx) with h | h
        · rcases hpsIn j hj x hxj with ⟨_, _, q⟩ | ⟨_, _, q⟩
          · have := lt1 x q; omega
          · have := lt2 x q; omega
        · exact rowne j hj x hxj h
  have inAll : ∀ b, b ∈ v'.ownBlock.toList ++ (List.range (l ++ l').length).flatMap hps → (w.heap.size ≤ b ∧ b < w'.heap.size) ∨ b ∈ k.fp ∨ b ∈ k2.fp := fun b hb => by
    rcases List.mem_append.1 hb with hb | hb
    · rcases hfresh b (mem_own.1 hb) with h | h
      · exact .inl h
      · exact .inr (.inl (rowin b h).1)
    · obtain ⟨j, hj, hxj⟩ := List.mem_flatMap.1 hb
      rcases hpsIn j (List.mem_range.1 hj) b hxj with ⟨_, _, q⟩ | ⟨_, _, q⟩
      · exact .inr (.inl q)
      · exact .inr (.inr q)
  have h3 := hR.grow (d := d) (x := .rs t1 te (l ++ l')) (k := { v := v', own := none, fp := v'.ownBlock.toList ++ (List.range (l ++ l').length).flatMap hps }) (w' := w') (ro' := ro) (row := row) (gs := [(id, none), (id', none)]) hd (.inl hN)
    (fun i r hm => by
      simp at hm
      rcases hm with ⟨rfl, rfl⟩ | ⟨rfl, rfl⟩
      · exact ⟨rfl, _, hbx⟩
      · exact ⟨rfl, _, hby'⟩) hg (run_drawn _ hexec) (fun b hb => ⟨id, k, _, by simp, hbx, hk, (rowin b hb).1⟩) (fun b hb => hb) (fun b hb => .inl hb) hbox
    (fun b hb' => by
      rcases inAll b hb' with h | h | h
      · exact .inl h
      · exact .inr ⟨id, k, _, by simp, hbx, hk, h⟩
      · exact .inr ⟨id', k2, _, by simp, hby', hk2, h⟩) (fun b q hb' => by
      have hsz := hg.size
      cases q with
      | one => cases hb'
      | fro => exact hb'.elim
      | deep =>
        rcases inAll b hb' with h | h | h
        · exact h.2
        · have := lt1 b h; omega
        · have := lt2 b h; omega)
  unfold Oper.wp
  rw [hexec]
  exact hK _ _ ⟨_, _, h3.put (fun x hx => by rw [ho] at hx; cases hx; exact hN) ⟨_, by simp [setβ]; rfl, rfl⟩⟩

/-- behind a call that writes into a box. -/
theorem R0.callS {w0 : Base} {a : Act} {w : World} {ro : Nat → Prop} {β : Nat → Option Blk} (h : R0 w0 N g gB a w ro β) {id : Nat} {x x' : Box} {k : Blk} {w' : World} {A : Nat → Prop} {β1 : Option Blk} (hid : gB id = some (some x)) (hk : β id = some k) (hkd : x'.kind = x.kind ∨ x'.kind = .fro) (hb : BelowX ⟨w, owns x.kind k, A, β1⟩ w')
    (o : Nat → Prop) (hx : BoxRep w' (fun b => ro b ∨ (w.heap.size ≤ b ∧ b < w'.heap.size ∧ ¬ o b) ∨ (x'.kind = .fro ∧ owns x.kind k b)) 0 k x') (hnv : ∀ kid xs, x' ≠ .vq kid xs) : R0 w0 N g (updB gB [(id, some x')]) a w' (fun b => ro b ∨ (w.heap.size ≤ b ∧ b < w'.heap.size ∧ ¬ o b) ∨ (x'.kind = .fro ∧ owns x.kind k b)) β := by
  obtain ⟨k', hk', hrep, hown⟩ := h.box id x hid
  rw [hk] at hk'; cases hk'
  have hsz0 : w0.heap.size ≤ w.heap.size := h.below.size
  have hsz : w.heap.size ≤ w'.heap.size := hb.size
  have hw : ∀ b, ro b → w'.heap[b]? = w.heap[b]? := fun b hb' => hb.block b (h.roLt b hb') (fun e => (hown b e).2 hb')
  have owx : ∀ b, owns x'.kind k b → owns x.kind k b := fun b hb' => by
    rcases hkd with e | e
    · rw [e] at hb'; exact hb'
    · rw [e] at hb'; exact hb'.elim
  have live : ∀ i z, (if i = id then some (some x') else gB i) = some (some z) → ∃ z', gB i = some (some z') ∧ ∀ k' b, owns z.kind k' b → owns z'.kind k' b := fun i z hz => by
    split at hz
    · rename_i e; subst e; cases hz
      refine ⟨_, hid, fun k' b hb' => ?_⟩
      rcases hkd with e | e
      · rw [e] at hb'; exact hb'
      · rw [e] at hb'; exact hb'.elim
    · exact ⟨z, hz, fun _ _ h => h⟩
  refine ⟨⟨hb.os.trans h.below.os, hb.tape.trans h.below.tape, hb.output.trans h.below.output, Nat.le_trans hsz0 hb.size, fun b hb' hx => (hb.block b (Nat.lt_of_lt_of_le hb' hsz0) (fun e => by rcases (hown b e).1 with h1 | h1; omega; exact hx h1)).trans (h.below.block b hb' hx), Nat.le_trans h.below.drawn hb.drawn⟩,
    fun s => (h.slots s).mono (fun b hb => .inl hb) hw (fun _ _ h => h), fun id2 y hy => ?_, fun id1 id2 y1 y2 b k1 k2 h1 h2 e1 e2 o1 o2 => ?_, fun id2 h2 => ?_, fun b hb' => hb'.elim (fun h1 => h.roUp b h1) (fun h1 => h1.elim (fun h1 => .inr (.inl (Nat.le_trans hsz0 h1.1))) fun h1 => .inr (hown b h1.2).1), fun b hb' => ?_, fun id k b q hk hb' => Nat.lt_of_lt_of_le (h.βLt id k b q hk hb') hsz, h.defers, h.size, fun k' hk' => ⟨(h.fix k' hk').1, fun y hy => ?_⟩, fun i kid xs hy => ?_⟩
  · rw [updB_one] at hy
    split at hy
    · rename_i e
      cases hy; subst e
      refine ⟨k, hk, hx, fun b hb' => ⟨(hown b (owx b hb')).1, ?_⟩⟩
      rintro (hr | hr | hr)
      · exact (hown b (owx b hb')).2 hr
      · exact absurd (h.βLt id2 k b _ hk hb') (by omega)
      · rw [hr.1] at hb'; exact hb'.elim
    · rename_i e
      obtain ⟨k2, hk2, hr2, ho2⟩ := h.box id2 y hy
      refine ⟨k2, hk2, hr2.mono (fun b hb => .inl hb) hw (fun b hb' => hb.block b (h.βLt id2 k2 b _ hk2 hb') (fun e' => e (h.inj id id2 _ _ b k k2 hid hy hk hk2 e' hb').symm)), fun b hb' => ⟨(ho2 b hb').1, ?_⟩⟩
      rintro (hr | hr | hr)
      · exact (ho2 b hb').2 hr
      · exact absurd (h.βLt id2 k2 b _ hk2 hb') (by omega)
      · exact e (h.inj id id2 _ _ b k k2 hid hy hk hk2 hr.2 hb').symm
  · rw [updB_one] at h1 h2
    obtain ⟨z1, hz1, q1⟩ := live _ _ h1
    obtain ⟨z2, hz2, q2⟩ := live _ _ h2
    exact h.inj id1 id2 z1 z2 b k1 k2 hz1 hz2 e1 e2 (q1 _ _ o1) (q2 _ _ o2)
  · rw [updB_one] at h2
    split at h2
    · cases h2
    · exact h.free id2 h2
  · rcases hb' with h1 | h1 | h1
    · exact Nat.lt_of_lt_of_le (h.roLt b h1) hsz
    · exact h1.2.1
    · exact Nat.lt_of_lt_of_le (h.βLt id k b _ hk h1.2) hsz
  · rw [updB_one] at hy
    split at hy
    · rename_i e; subst e; exact (h.fix k' hk').2 _ hid
    · exact (h.fix k' hk').2 _ hy
  · rw [updB_one] at hy
    split at hy
    · cases hy; exact absurd rfl (hnv kid xs)
    · exact h.lnk i kid xs hy
theorem plain_box {w : World} {ro ro' : Nat → Prop} {k : Blk} {b : Box} (h : BoxRep w ro 0 k b) (hp : plainB b = true) : BoxRep w ro' 0 k b := by
  cases b with
  | vr xs =>
    obtain ⟨b, c, t, h1, h2, h3, h4⟩ := h
    refine ⟨b, c, t, h1, h2, h3, fun i y hy => ?_⟩
    obtain ⟨x, hx, hr⟩ := h4 i y hy
    exact ⟨x, hx, rep_plain hr (List.all_eq_true.1 hp y (List.mem_of_getElem? hy))⟩
  | row t e l =>
    obtain ⟨h1, h2, h3, h4, xs, h5, h6⟩ := h
    refine ⟨h1, h2, h3, h4, xs, h5, fun j c hj hc => ?_⟩
    obtain ⟨x, hx, hr⟩ := h6 j c hj hc
    refine ⟨x, hx, rep_plain hr ?_⟩
    cases e with
    | i k => simp only [El.cell, plainA]
    | s4 => simp only [El.cell]; split <;> rfl
    | rows => cases hp
    | tree => cases hp
    | num => cases hp
    | i2 => simp only [El.cell]; split <;> rfl
    | rt => cases hp
  | fro e l => cases hp
  | tr t => exact h
  | kids l => exact h
  | rs t te l => exact h
  | vq kid xs => exact h
theorem hid_live {id id' : Nat} {x : Box} (h : Ev.hid gB id id' = some (some x)) : id' ≠ id ∧ gB id' = some (some x) := by
  unfold Ev.hid at h
  split at h
  · cases h
  · rename_i hb; exact ⟨fun e => by (rw [beq_iff.2 e.symm] at hb; cases hb), h⟩
theorem hid_exA {id : Nat} {x : Operand} {y : AV} (h : exA g (Ev.hid gB id) x = some y) : exA g gB x = some y := by
  unfold exA at h ⊢
  split at h
  · exact h
  · split at h
    · rename_i hb; simp only [(hid_live hb).2]; exact h
    · rename_i hb; simp only [(hid_live hb).2]; exact h
    · rename_i hb; simp only [(hid_live hb).2]; exact h
    · rename_i hb; simp only [(hid_live hb).2]; exact h
    · cases h
  · split at h
    · rename_i hb; simp only [(hid_live hb).2]; exact h
    · cases h
  · exact h
  · split at h
    · rename_i hb; simp only [(hid_live hb).2]; exact h
    · cases h
  · cases h
/-- the boxes but one: they are told of still. -/
theorem R0.hid {w0 : Base} {a : Act} {w : World} {ro : Nat → Prop} {β : Nat → Option Blk} (h : R0 w0 N g gB a w ro β) (id : Nat) (hg : gB id ≠ none) : R0 w0 N g (Ev.hid gB id) a w ro β :=
  { h with
    slots := h.slots
    box := fun id' x hx => h.box id' x (hid_live hx).2
    inj := fun i j x y b k k' hx hy => h.inj i j x y b k k' (hid_live hx).2 (hid_live hy).2
    free := fun i hi => by
      unfold Ev.hid at hi
      split at hi
      · cases hi
      · exact h.free i hi
    fix := fun k hk => ⟨(h.fix k hk).1, fun x hx => (h.fix k hk).2 x (hid_live hx).2⟩
    lnk := fun id' kid xs hx => h.lnk id' kid xs (hid_live hx).2 }
/-- what is handed back, told in a world. -/
def RetRepX (wr : World) (n : Nat) (w' : World) (F : Nat → Prop) (v : Value) : Rt → Prop
  | .one a => Rep wr F v a
  | .many xs => ∃ vs : Array Value, v = .tuple vs ∧ vs.size = xs.length ∧ ∀ (i : Nat) (u : Value) (y : AV), vs[i]? = some u → xs[i]? = some y → Rep wr F u y
  | .own t e l => ∃ xs, ownsW w' n t e.z v l.length xs ∧ ∀ j c, j < l.length → c < e.z → ∃ u, xs[j * e.z + c]? = some u ∧ Rep wr F u (e.cell (l.getD j default) c)
  | .var _ => True
  | .deep _ _ _ => True
  | .rows _ _ _ => True
theorem plain_cell {e : El} (he : plainE e = true) (x : e.T) (c : Nat) : plainA (e.cell x c) = true := by
  cases e with
  | i k => simp only [El.cell, plainA]
  | s4 => simp only [El.cell]; split <;> rfl
  | rows => cases he
  | tree => cases he
  | num => cases he
  | i2 => simp only [El.cell]; split <;> rfl
  | rt => cases he
theorem retX_plain {w w' w'' : World} {A F : Nat → Prop} {v : Value} {rt : Rt} (h : RetRep w w' A v rt) (hp : plainR rt = true) : RetRepX w'' w.heap.size w' F v rt := by
  cases rt with
  | one a => exact rep_plain (show Rep w' _ v a from h) hp
  | many xs => obtain ⟨vs, h1, h2, h3⟩ := h; exact ⟨vs, h1, h2, fun i u y hu hy => rep_plain (h3 i u y hu hy) (List.all_eq_true.1 hp y (List.mem_of_getElem? hy))⟩
  | own t e l => obtain ⟨xs, h1, h2⟩ := h; exact ⟨xs, h1, fun j c hj hc => (h2 j c hj hc).imp fun u hu => ⟨hu.1, rep_plain hu.2 (plain_cell hp _ _)⟩⟩
  | var xs => cases hp
  | deep xs ys l => cases hp
  | rows t te l => cases hp
theorem retX_of {w w' : World} {A F : Nat → Prop} {v : Value} {rt : Rt} (h : RetRep w w' A v rt) (hF : ∀ b, fresh w w' A b → ¬ ownB v rt b → F b) : RetRepX w' w.heap.size w' F v rt := by
  cases rt with
  | one a => exact Rep.mono (fun b hb => hF b hb fun h => h) (fun _ _ => rfl) (show Rep w' _ v a from h)
  | many xs => obtain ⟨vs, h1, h2, h3⟩ := h; exact ⟨vs, h1, h2, fun i u y hu hy => Rep.mono (fun b hb => hF b hb fun h => h) (fun _ _ => rfl) (h3 i u y hu hy)⟩
  | own t e l => obtain ⟨xs, h1, h2⟩ := h; exact ⟨xs, h1, fun j c hj hc => (h2 j c hj hc).imp fun u hu => ⟨hu.1, Rep.mono (fun b hb => hF b hb.1 hb.2) (fun _ _ => rfl) hu.2⟩⟩
  | var xs => trivial
  | deep xs ys l => trivial
  | rows t te l => trivial
theorem ok_callS {c : Call} {f : FuncId} {x : Operand} {r : List Operand} {sk : SK} {id : Nat} {bx bx' : Box} {as : List AV} {rt : Rt} {bs bo : Bxs} {H : Box → List AV → Option (Rt × Box)} (hop : o.op = .call c) (hc : c.callee = .value (.func f)) (hF : FunS P f sk H) (hH : H bx as = some (rt, bx')) (hd : ∀ d, o.dst = some d → d < N)
    (hx : c.args.toList = x :: r) (hst : stA g gB sk x = some (id, bx)) (hargs : (argsF g gB r = some (as, bs) ∧ getB bs id = none) ∨ (bs = [] ∧ args g (Ev.hid gB id) r = some as)) (hpl : (plainB bx' = true ∧ plainR rt = true ∧ bo = []) ∨ (argsF g gB r = some (as, bs) ∧ getB bs id = none ∧ bo = bs))
    (hu : (∃ y, rt = .one y ∧ u = ⟨.p y, (id, some bx') :: bo⟩) ∨ (∃ ys, rt = .many ys ∧ u = ⟨.tup ys, (id, some bx') :: bo⟩) ∨ (∃ t e l d, rt = .own t e l ∧ o.dst = some d ∧ gB d = none ∧ getB ((id, some bx') :: bo) d = none ∧ u = ⟨.osl d, (d, some (.row t e l)) :: (id, some bx') :: bo⟩)) (hnv : ∀ kid xs, bx' ≠ .vq kid xs) : Okk P N g gB o u := by
  intro w0 a w K Q hR hK
  obtain ⟨ro, β, hR⟩ := hR
  have hexec : (execOp a.eval o).run P w = .ok (.enter f (c.args.map a.eval)) w := by
    simp only [execOp, hop, resolve, hc, Act.eval, Deferred.ofValue, Sem.run_bind, Sem.run_pure, Result.andThen_ok, invoke, Array.empty_append, Array.append_empty, List.append_nil]
    exact run_callFunc hF.can _ w
  unfold Oper.wp
  rw [hexec, Oper.upon_enter]
  have hgB : gB id = some (some bx) := by
    unfold stA at hst
    split at hst
    · split at hst
      · rename_i hb; cases hst; exact hb
      · cases hst
    · split at hst
      · rename_i hb; cases hst; exact hb
      · rename_i hb; cases hst; exact hb
      · rename_i hb; cases hst; exact hb
      · rename_i hb; cases hst; exact hb
      · cases hst
    · split at hst
      · rename_i hb _; cases hst; exact hb
      · cases hst
    · cases hst
  obtain ⟨k, hk, hrep, hown⟩ := hR.box id bx hgB
  have hv0 : skV sk k (a.eval x) := by
    have hs := hR.sv x
    unfold stA at hst
    split at hst
    · rename_i hx'
      rw [hx'] at hs
      split at hst
      · cases hst
        obtain ⟨k', b, hk', hb, hv⟩ := hs
        rw [hk] at hk'; cases hk'
        exact ⟨b, hb, hv⟩
      · cases hst
    · rename_i hx'
      rw [hx'] at hs
      have hv : a.eval x = k.v ∨ False := by
        split at hst
        all_goals first
          | cases hst; done
          | (cases hst
             obtain ⟨k', hk', hv⟩ := hs
             rw [hk] at hk'; cases hk'
             exact .inl hv)
      exact hv.elim (fun h => h) False.elim
    · rename_i hx'
      rw [hx'] at hs
      split at hst
      · rename_i hb5
        cases hst
        obtain ⟨k', hk', hv⟩ := hs
        rw [hk] at hk'; cases hk'
        exact ⟨_, beq_iff.1 hb5, hv⟩
      · cases hst
    · cases hst
  have hlive : ∀ bs, getB bs id = none → updB gB bs id = some (some bx) := fun bs h => by unfold updB; rw [h]; exact hgB
  -- the other arguments
  obtain ⟨A, hA, hAk, hlen, hreps, hAr⟩ : ∃ A : Nat → Prop, (∀ b, A b → b < w.heap.size) ∧ (∀ b, owns bx.kind k b → ¬ A b) ∧ as.length = r.length ∧ (∀ (i : Nat) (v : Value) (y : AV), (r.map a.eval)[i]? = some v → as[i]? = some y → Rep w A v y) ∧ ((argsF g gB r = some (as, bs) ∧ getB bs id = none → ∀ b, A b ↔ rof gB ro β bs b) ∧ ∀ b, ro b → A b) := by
    by_cases hq : argsF g gB r = some (as, bs) ∧ getB bs id = none
    · obtain ⟨hF', hn⟩ := hq
      obtain ⟨h0, h1, h2⟩ := argsF_ok hR _ _ _ hF'
      have hf := hR.freeze h0
      obtain ⟨k', hk', _, hown'⟩ := hf.box id bx (hlive bs hn)
      rw [hk] at hk'; cases hk'
      exact ⟨rof gB ro β bs, hf.roLt, fun b hb => (hown' b hb).2, h1, h2, fun _ b => Iff.rfl, fun b hb => .inl hb⟩
    · obtain ⟨rfl, ha⟩ := hargs.resolve_left hq
      have hR' := hR.hid id (by rw [hgB]; simp)
      obtain ⟨h1, h2⟩ := args_ok hR' _ _ ha
      refine ⟨_, fun b hb => hR'.seenLt hb, fun b hb => ?_, h1, h2, fun h => absurd h hq, fun b hb => .inl hb⟩
      rintro (hr | ⟨id', x', k', hx', hk', hb'⟩)
      · exact (hown b hb).2 hr
      · obtain ⟨hne, hx2⟩ := hid_live hx'
        exact hne (hR.inj id' id x' bx b k' k hx2 hgB hk' hk hb' hb)
  have hargs' : c.args.map a.eval = #[a.eval x] ++ (r.map a.eval).toArray := by
    apply Array.ext'
    rw [Array.toList_map, hx]
    simp
  rw [hargs']
  refine (hF.runs bx as rt bx' hH (a.eval x) (r.map a.eval).toArray w A k hA (by simp [hlen]) ((hrep.mono hAr.2 (fun _ _ => rfl) (fun _ _ => rfl))) hv0 hAk (fun b q hb => hR.βLt id k b q hk hb) (fun i v y hv hy => hreps i v y (by simpa using hv) hy)).mono fun e w' ⟨v, he, hb, hbx, hkd, hret⟩ => ?_
  subst he
  have hplain : plainR rt = true → ∀ ro' w'', RetRepX w'' w.heap.size w' ro' v rt := fun hp ro' w'' => retX_plain hret hp
  have fin : ∀ (ro1 : Nat → Prop), (∀ b, ro1 b → b < w.heap.size) → R0 w0 N g (updB (updB gB bo) [(id, some bx')]) a w' (fun b => ro1 b ∨ (w.heap.size ≤ b ∧ b < w'.heap.size ∧ ¬ ownB v rt b) ∨ (bx'.kind = .fro ∧ owns bx.kind k b)) β →
      RetRepX w' w.heap.size w' (fun b => ro1 b ∨ (w.heap.size ≤ b ∧ b < w'.heap.size ∧ ¬ ownB v rt b) ∨ (bx'.kind = .fro ∧ owns bx.kind k b)) v rt → K (a.put o.dst v) w' := fun ro1 hro1 h3 hX => by
    rw [← updB_cons] at h3
    rcases hu with ⟨y, rfl, rfl⟩ | ⟨ys, rfl, rfl⟩ | ⟨t, e, l, d, rfl, hdst, hgd, hgb, rfl⟩
    · exact hK _ _ ⟨_, _, h3.put hd hX⟩
    · exact hK _ _ ⟨_, _, h3.put hd hX⟩
    · obtain ⟨xs, hown', hcells⟩ := hX
      have h4 := h3.claim (d := d) (x := .row t e l) (k := { v := v, own := v.ownBlock, t := t, z := e.z, n := l.length }) (by unfold updB; rw [hgb]; exact hgd) (.inl (hd d hdst))
        ⟨rfl, rfl, rfl, rfl, xs, own_base hown' (Nat.zero_le _), hcells⟩ (fun b hb => by
          have hlt := hown'.lt b hb
          refine ⟨Nat.le_trans hR.below.size hlt.1, ?_, fun id' y k' _ hk' ho => ?_⟩
          · rintro (hr | hr | hr)
            · exact absurd (hro1 b hr) (by omega)
            · exact hr.2.2 hb
            · exact absurd (hR.βLt id k b _ hk hr.2) (by omega)
          · exact absurd (hR.βLt id' k' b _ hk' ho) (by omega)) (fun b q hb => (hown'.lt b (owns_own rfl hb)).2)
      rw [← updB_cons] at h4
      exact hK _ _ ⟨_, _, h4.put hd ⟨_, by simp [setβ]; rfl, rfl⟩⟩
  rcases hpl with ⟨hp, hp', rfl⟩ | ⟨hF', hn, rfl⟩
  · refine fin ro hR.roLt ?_ (hplain hp' _ _)
    rw [updB_nil]
    exact hR.callS hgB hk hkd hb _ (plain_box hbx hp) hnv
  · obtain ⟨h0, _, _⟩ := argsF_ok hR _ _ _ hF'
    have hf := hR.freeze h0
    have hsub : ∀ b, fresh w w' (give A bx bx' k) b ∧ ¬ ownB v rt b → rof gB ro β bo b ∨ (w.heap.size ≤ b ∧ b < w'.heap.size ∧ ¬ ownB v rt b) ∨ (bx'.kind = .fro ∧ owns bx.kind k b) := fun b hb' => by
      rcases hb'.1 with (h | h) | h
      · exact .inl ((hAr.1 ⟨hF', hn⟩ b).1 h)
      · exact .inr (.inr h)
      · exact .inr (.inl ⟨h.1, h.2, hb'.2⟩)
    refine fin _ hf.roLt (hf.callS (hlive _ hn) hk hkd hb _ (hbx.mono hsub (fun _ _ => rfl) (fun _ _ => rfl)) hnv) ?_
    exact retX_of hret fun b h1 h2 => hsub b ⟨h1, h2⟩
theorem ok_callR {c : Call} {f : FuncId} {x : Operand} {id d : Nat} {t : TypeId} {e : El} {l : List e.T} {bx' : Box} {H : Box → Option Box} (hop : o.op = .call c) (hc : c.callee = .value (.func f)) (hx : c.args.toList = [x]) (hF : FunR P f H) (hH : H (.row t e l) = some bx') (ho : o.dst = some d) (hN : d < N) (hd : gB d = none)
    (hs : sv g x = .osl id) (hb : gB id = some (some (.row t e l))) : Okk P N g gB o ⟨.osl d, [(d, some bx'), (id, none)]⟩ := by
  intro w0 a w K Q hR hK
  obtain ⟨ro, β, hR⟩ := hR
  have hexec : (execOp a.eval o).run P w = .ok (.enter f (c.args.map a.eval)) w := by
    simp only [execOp, hop, resolve, hc, Act.eval, Deferred.ofValue, Sem.run_bind, Sem.run_pure, Result.andThen_ok, invoke, Array.empty_append, Array.append_empty, List.append_nil]
    exact run_callFunc hF.can _ w
  unfold Oper.wp
  rw [hexec, Oper.upon_enter]
  obtain ⟨t', e', l', rfl, hruns⟩ := hF.runs t e l bx' hH
  obtain ⟨k, hk, hrep, hown⟩ := hR.box id _ hb
  have hv := hR.sv x
  rw [hs] at hv
  obtain ⟨k2, hk2, hv⟩ := hv
  rw [hk] at hk2; cases hk2
  have hargs' : c.args.map a.eval = #[k.v] := by
    apply Array.ext'
    rw [Array.toList_map, hx]
    simp [hv]
  rw [hargs']
  refine (hruns w ro k hR.roLt hrep (fun b hb' => (hown b hb').2) (fun b hb' => hR.βLt id k b .one hk hb')).mono fun e w' ⟨k', he, hbel, hbox, hfp, hkk⟩ => ?_
  subst he
  have hg : w.grownBy w' k.own := ⟨hbel.os, hbel.tape, hbel.output, hbel.size, fun b hb1 hb2 => hbel.block b hb1 (fun e => hb2 (show some b = k.own from e.symm))⟩
  have gone_ : ∀ b, k.own = some b → gone gB β [(id, none)] b := fun b hb' => ⟨id, k, _, by simp, hb, hk, hb'⟩
  have h2 := hR.grow (d := d) (x := .row t' e' l') (k := k') (w' := w') (ro' := ro) (row := k.own) (gs := [(id, none)]) hd (.inl hN) (fun id' r hm => by simp at hm; obtain ⟨rfl, rfl⟩ := hm; exact ⟨rfl, _, hb⟩) hg hbel.drawn gone_ (fun b hb => hb) (fun b hb => .inl hb) hbox
    (fun b hb' => .inr (gone_ b (hkk b (owns_own hfp hb')))) (fun b q hb' => Nat.lt_of_lt_of_le (hR.βLt id k b .one hk (hkk b (owns_own hfp hb'))) hbel.size)
  exact hK _ _ ⟨_, _, h2.put (fun y hy => by rw [ho] at hy; cases hy; exact hN) ⟨k', by simp [setβ], rfl⟩⟩
theorem rep_take {w : World} {ro : Nat → Prop} {A : Option Addr} {n cap : Nat} {e : El} {l : List e.T} (h : Rep w ro (.slice A n cap) (.sl e l)) {k : Nat} (hk : k ≤ l.length) : Rep w ro (.slice A k cap) (.sl e (l.take k)) := by
  cases h with
  | sl A cap e l vals hcap hnil hA hrep =>
    have hl : (l.take k).length = k := by simp; omega
    have := Rep.sl (w := w) (ro := ro) A cap e (l.take k) vals (by omega) hnil (fun j hj => hA j (by omega)) (fun j c hj hc => by
      have h1 := hrep j c (by omega) hc
      rwa [show (l.take k).getD j default = l.getD j default by simp [List.getElem?_take, show j < k by omega]])
    rwa [hl] at this

theorem rep_drop {w : World} {ro : Nat → Prop} {A : Option Addr} {n cap : Nat} {e : El} {l : List e.T} (h : Rep w ro (.slice A n cap) (.sl e l)) {k : Nat} (hk : k ≤ l.length) : n = l.length ∧ l.length ≤ cap ∧ Rep w ro (.slice (if cap = k then A else A.map (·.add (k * e.z))) (l.length - k) (cap - k)) (.sl e (l.drop k)) := by
  cases h with
  | sl A cap e l vals hcap hnil hA hrep =>
    refine ⟨rfl, hcap, ?_⟩
    have hl : (l.drop k).length = l.length - k := by simp
    have := Rep.sl (w := w) (ro := ro) (if cap = k then A else A.map (·.add (k * e.z))) (cap - k) e (l.drop k) (fun j c => vals (k + j) c) (by omega) (fun hn => by
        split at hn
        · rw [hnil hn]; omega
        · cases A with
          | none => rw [hnil rfl]; omega
          | some a => cases hn) (fun j hj => by
        have hj' : k + j < l.length := by rw [hl] at hj; omega
        obtain ⟨a, rfl, hs, hr, hc⟩ := hA (k + j) hj'
        rw [if_neg (by omega)]
        refine ⟨⟨a.block, a.off + k * e.z, none⟩, by simp [addr_add hs], rfl, hr, fun c hc' => ?_⟩
        rw [← hc c hc']
        congr 2
        simp only [Nat.add_mul]; omega) (fun j c hj hc => by
        have hj' : k + j < l.length := by rw [hl] at hj; omega
        have h1 := hrep (k + j) c hj' hc
        rwa [show (l.drop k).getD j default = l.getD (k + j) default by simp [List.getElem?_drop]])
    rwa [hl] at this

theorem iN_ok {w0 : Base} {a : Act} {w : World} {ro : Nat → Prop} {β : Nat → Option Blk} (hR : R0 w0 N g gB a w ro β) {x : Operand} {n : Int} (h : iN (exA g gB x) = some n) : ∃ k, a.eval x = .int k n := by
  unfold iN at h
  split at h
  · rename_i kk n' hx
    cases h
    exact ⟨kk, rep_v_inv (hR.exA hx)⟩
  · cases h

theorem ok_slice {t el : TypeId} {x : Operand} {lo hi : Option Operand} {e : El} {l r : List e.T} {bs : Bxs} (hop : o.op = .slice t x lo hi none) (ht : P.underlying t = some (.slice el)) (hx : exF g gB x = some (.sl e l, bs)) (hz : szP P el = some e.z)
    (hb : (∃ h n, lo = none ∧ hi = some h ∧ iN (exA g gB h) = some n ∧ 0 ≤ n ∧ n ≤ (l.length : Int) ∧ r = l.take n.toNat) ∨ ∃ h n, lo = some h ∧ hi = none ∧ iN (exA g gB h) = some n ∧ 0 ≤ n ∧ n ≤ (l.length : Int) ∧ r = l.drop n.toNat) (hd : ∀ d, o.dst = some d → d < N) : Okk P N g gB o ⟨.p (.sl e r), bs⟩ :=
  okV hd fun w0 a w ro β hR => by
    obtain ⟨hf, hr⟩ := hR.exF hx
    refine ⟨hf, ?_⟩
    obtain ⟨A, n0, cap, hv⟩ : ∃ A n0 cap, a.eval x = .slice A n0 cap := by
      generalize a.eval x = v at hr
      cases hr; exact ⟨_, _, _, rfl⟩
    rw [hv] at hr
    have hn0 : n0 = l.length ∧ l.length ≤ cap := by cases hr; exact ⟨rfl, by assumption⟩
    obtain ⟨rfl, hcap⟩ := hn0
    rcases hb with ⟨h, n, rfl, rfl, hn, h0, h1, rfl⟩ | ⟨h, n, rfl, rfl, hn, h0, h1, rfl⟩
    · obtain ⟨k, hk⟩ := iN_ok hR hn
      refine ⟨.slice A n.toNat cap, ?_, rep_take hr (by omega)⟩
      simp only [execOp, hop, hv, Option.map_some, Option.map_none, hk]
      refine run_val (α := Unit) ?_
      unfold Instr.sliceAt
      rw [run_bind_ok (pr_under ht w)]
      simp only
      unfold Instr.slice
      rw [run_bind_ok (pr_under ht w)]
      simp only [Instr.sliceBounds, Instr.sliceBound, Sem.run_bind, Sem.run_pure, Result.andThen_ok, asIntOf]
      rw [if_pos ⟨h0, by omega⟩]
      simp only [Sem.run_pure, Result.andThen_ok, pr_size hz w]
      cases A with
      | none => simp
      | some a => simp [Addr.add]
    · obtain ⟨k, hk⟩ := iN_ok hR hn
      obtain ⟨_, _, h2⟩ := rep_drop hr (k := n.toNat) (by omega)
      refine ⟨_, ?_, h2⟩
      simp only [execOp, hop, hv, Option.map_some, Option.map_none, hk]
      refine run_val (α := Unit) ?_
      unfold Instr.sliceAt
      rw [run_bind_ok (pr_under ht w)]
      simp only
      unfold Instr.slice
      rw [run_bind_ok (pr_under ht w)]
      simp only [Instr.sliceBounds, Instr.sliceBound, Sem.run_bind, Sem.run_pure, Result.andThen_ok, asIntOf]
      rw [if_pos ⟨h0, by omega⟩]
      simp only [Sem.run_pure, Result.andThen_ok, pr_size hz w, Option.isSome_none, Bool.false_eq_true, if_false]
end
end Go.Proofs.YtalkkenkeilmpaaGreat.Ev
