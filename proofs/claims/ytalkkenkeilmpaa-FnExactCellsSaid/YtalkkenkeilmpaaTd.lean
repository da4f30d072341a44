/- A solid is copied: every slice of the copy is its own. Walked by hand, with the evaluator's help. -/
import Derived.Test.YtalkkenkeilmpaaNd
namespace Go.Proofs.Ytalkkenkeilmpaa.G
open Go Go.RowKit Go.Proofs Go.Proofs.Ytalkkenkeilmpaa.Ev
set_option linter.unusedVariables false
set_option linter.unusedSimpArgs false

mutual
def tokT : Tree → Bool
  | .mk _ _ l => lt47 l.length && tokL l
def tokL : List Tree → Bool
  | [] => true
  | t :: l => tokT t && tokL l
end
theorem tokL_get : ∀ {l : List Tree} {i : Nat}, tokL l = true → (h : i < l.length) → tokT l[i] = true
  | [], i, _, h => absurd h (Nat.not_lt_zero i)
  | t :: l, 0, h1, h => by simp only [tokL, Bool.and_eq_true] at h1; exact h1.1
  | t :: l, i + 1, h1, h => by simp only [tokL, Bool.and_eq_true] at h1; exact tokL_get (l := l) h1.2 (Nat.lt_of_succ_lt_succ h)
namespace tsol
open mark (rgs put_getD put_size nodup_fps nodup_fp evOps_pre rt_v)
noncomputable abbrev PP : Program := Try.prog
theorem run_index {P : Program} {t el : TypeId} {z : Nat} (ht : P.underlying t = some (.slice el)) (hz : szP P el = some z) {b n cap : Nat} {k : IntKind} {i' : Nat} (hn : i' < n) (w : World) : (Instr.indexAt t (.slice (some ⟨b, 0, none⟩) n cap) (.int k (i' : Int))).run P w = .ok (.pointer (some ⟨b, i' * z, none⟩)) w := by
  unfold Instr.indexAt
  rw [run_bind_ok (x := (k, (i' : Int))) (w' := w) rfl]
  simp only
  rw [run_bind_ok (pr_under ht w)]
  simp only
  rw [run_bind_ok (x := (some ⟨b, 0, none⟩, n, el)) (w' := w) rfl]
  simp only
  rw [run_bind_ok (pr_under ht w)]
  simp only [Bool.and_false]
  rw [if_pos ⟨Int.natCast_nonneg _, by omega⟩, run_bind_ok (pr_size hz w)]
  simp [addr_add (a := ⟨b, 0, none⟩) rfl]
theorem run_storeX {P : Program} {o : Oper} {a : Act} {w w' : World} {t : TypeId} {x y : Operand} {v p : Value} (ho : o.op = .store t x y) (e : a.eval x = p) (e2 : a.eval y = v) (hv : (Instr.storeAt t p v).run P w = .ok () w') : (execOp a.eval o).run P w = .ok .skip w' := by
  simp only [execOp, ho, e, e2]
  rw [run_bind_ok hv]; rfl
theorem run_mv {P : Program} {o : Oper} {a : Act} {w : World} {x : Nat} {v : Value} (ho : o.op = .move (.tmp x) ∨ o.op = .assign (.tmp x)) (h : a.tmps.getD x undef = v) : (execOp a.eval o).run P w = .ok (.value v) w := by
  have e : a.eval (.tmp x) = v := h
  rcases ho with ho | ho
  · simp [execOp, ho, e]
  · simp [execOp, ho, e]
theorem run_call1 {P : Program} {o : Oper} {a : Act} {w : World} {c : Call} {f : FuncId} {x : Nat} {v : Value} (ho : o.op = .call c) (h1 : c.callee = .value (.func f)) (h2 : c.args = #[.tmp x]) (hc : callable P f = true) (hx : a.tmps.getD x undef = v) : (execOp a.eval o).run P w = .ok (.enter f #[v]) w := by
  have hm : Array.map a.eval #[.tmp x] = #[v] := by
    have g1 : a.eval (.tmp x) = v := hx
    simp [g1]
  simp only [execOp, ho, resolve, h1, h2, hm, Act.eval, Deferred.ofValue, Sem.run_bind, Sem.run_pure, Result.andThen_ok, invoke, Array.empty_append, Array.append_empty, List.append_nil]
  exact run_callFunc (P := P) (f := f) hc #[v] w
theorem step_c {P : Program} {ops : Array Oper} {Q : Exit → Act → World → Prop} {o : Oper} {rest : List Oper} {a : Act} {w : World} {f : FuncId} {vs : Array Value} {d : Nat} (hg : o.guard = none) (hd : o.dst = some d) (hr : (execOp a.eval o).run P w = .ok (.enter f vs) w)
    (h : Calls P f vs w fun e w' => ∃ v, e = .returned v ∧ wpList P ops Q rest (a.put (some d) v) w') : wpList P ops Q (o :: rest) a w :=
  wpList_plain hg fun K hK => by
    unfold Oper.wp
    rw [hr, Oper.upon_enter]
    refine h.mono fun e w' ⟨v, he, hw⟩ => ?_
    subst he
    show K (a.put o.dst v) w'
    rw [hd]; exact hK _ _ hw
theorem nodup_mk : ∀ {n : Nat} {fps : Nat → List Nat}, (∀ i, i < n → (fps i).Nodup) → (∀ i j x, i < n → j < n → x ∈ fps i → x ∈ fps j → i = j) → ((List.range n).flatMap fps).Nodup
  | 0, _, _, _ => by simp
  | n + 1, fps, h1, h2 => by
    rw [List.range_succ, List.flatMap_append, List.nodup_append]
    refine ⟨nodup_mk (fun i hi => h1 i (by omega)) (fun i j x hi hj => h2 i j x (by omega) (by omega)), by simpa using h1 n (by omega), fun x hx y hy e => ?_⟩
    subst e
    obtain ⟨i, hi, hxi⟩ := List.mem_flatMap.1 hx
    have hy : x ∈ fps n := by simpa using hy
    have hi := List.mem_range.1 hi
    have := h2 i n x (by omega) (by omega) hxi hy
    omega
/-- toPlane's promise. -/
noncomputable def eTP : FE := { α := S4 × Unit, β := S4, args := lCons aS4 lNil, ret := rOne aS4, f := fun p => some p.1 }
/-- what is promised of a copy. -/
def Cpy (w : World) (t : Tree) (e : Ending) (w' : World) : Prop := ∃ v fp, e = .returned v ∧ BelowD w w' ∧ SolV w' fp v t ∧ ∀ b ∈ fp, w.heap.size ≤ b ∧ b < w'.heap.size
def CpyL (w : World) (l : List Tree) (e : Ending) (w' : World) : Prop := ∃ v fp, e = .returned v ∧ BelowD w w' ∧ OwnK w' fp v l ∧ fp.Nodup ∧ ∀ b ∈ fp, w.heap.size ≤ b ∧ b < w'.heap.size
theorem BelowD.trans {w w' w'' : World} (h : BelowD w w') (h2 : BelowD w' w'') : BelowD w w'' :=
  ⟨⟨h2.os.trans h.os, h2.tape.trans h.tape, h2.output.trans h.output, Nat.le_trans h.size h2.size, fun b hb => (h2.block b (Nat.lt_of_lt_of_le hb h.size)).trans (h.block b hb)⟩, Nat.le_trans h.drawn h2.drawn⟩
theorem ofX {w w' : World} {A : Nat → Prop} (h : BelowX ⟨w, fun _ => False, A, none⟩ w') : BelowD w w' := ⟨⟨h.os, h.tape, h.output, h.size, fun b hb => h.block b hb fun h => h⟩, h.drawn⟩

/-! ### the rows -/
namespace S
noncomputable def bd : Code := match Try.f17.body with | some c => c | none => .skip
noncomputable def rg (i : Nat) : Code := (rgs bd).getD i .skip
noncomputable def N : Nat := Try.f17.ntmps
noncomputable def cx0 (ρ : Type) : Cx ρ := mkCx PP [] []
noncomputable def hdC : Code := (rg 3).seq (.cond (.tmp 11) .skip (.exit 0))
theorem shape : bd = (rg 0).seq ((rg 1).seq (((rg 2).seq (.block 0 (.loop (hdC.seq ((Code.block 1 (rg 4)).seq (rg 5)))))).seq ((rg 6).seq .ret))) := by kernel_rfl
def stA (l : List Tree) : S2 := ([(0, .p (.sl .tree l))], [])
def nrm {ρ : Type} (K : S2 → Option ρ) (e : Exit) (st : S2) : Option ρ := match e with | .normal => K st | _ => none
def kA (st : S2) : Option (Nat × TypeId × List Tree × List Tree × Int) := match get st.1 0, get st.1 3, get st.1 4 with
  | .p (.sl .tree l), .osl id, .p (.v (.int .i64 i)) => (match getB st.2 id with | some (some (.row t .tree m)) => some (id, t, l, m, i) | _ => none)
  | _, _, _ => none
theorem eA (l : List Tree) : evCode (cx0 _) (rg 0) (stA l) (nrm fun st1 => evCode (cx0 _) (rg 1) st1 (nrm fun st2 => evCode (cx0 _) (rg 2) st2 (nrm kA))) = if 0 ≤ (l.length : Int) then (if lt47 ((l.length : Int)).toNat = true then some (7, 33, l, List.replicate (l.length : Int).toNat default, 0) else none) else none := by kernel_rfl
theorem lo {ρ : Type} {cx : Cx ρ} {i : Nat} (h : (match rg i with | .region _ _ _ => true | _ => false) = true) : LoopsOk PP N cx (rg i) := by
  cases hr : rg i with
  | region => trivial
  | _ => rw [hr] at h; cases h
theorem nrm_some {ρ : Type} {K : S2 → Option ρ} {e : Exit} {st : S2} {r : ρ} (h : nrm K e st = some r) : e = .normal ∧ K st = some r := by
  cases e with
  | normal => exact ⟨rfl, h⟩
  | _ => cases h
theorem peel {ρ : Type} {i : Nat} {st : S2} {K : S2 → Option ρ} {r : ρ} (hd : dstOk N (rg i) = true) (hL : LoopsOk PP N (cx0 ρ) (rg i)) (h : evCode (cx0 _) (rg i) st (nrm K) = some r) : ∃ st', K st' = some r ∧ To PP N (rg i) st .normal st' := by
  obtain ⟨e, st', hk, hto⟩ := evCode_ok (P := PP) rfl mixed (callsOk (cs := []) (ls := []) trivial) (rg i) st (nrm K) hd hL h
  obtain ⟨rfl, hk⟩ := nrm_some hk
  exact ⟨st', hk, hto⟩
def stL (l : List Tree) (kv : Value) (i : Int) : S2 := ([(0, .p (.sl .tree l)), (3, .p (.v kv)), (4, .p (.v (.int .i64 i)))], [])
def kx (st : S2) : Option (List Tree × Value × Int) := match get st.1 0, get st.1 3, get st.1 4 with
  | .p (.sl .tree l), .p (.v kv), .p (.v (.int .i64 i)) => some (l, kv, i)
  | _, _, _ => none
def kc (e : Exit) (st : S2) : Option (Bool × (List Tree × Value × Int)) := match e with
  | .normal => (match kx st with | some r => some (true, r) | none => none)
  | .exit 0 => (match kx st with | some r => some (false, r) | none => none)
  | _ => none
theorem eH (l : List Tree) (kv : Value) (i : Int) : evCode (cx0 _) hdC (stL l kv i) kc = if decide (i < (l.length : Int)) = true then some (true, l, kv, i) else some (false, l, kv, i) := by kernel_rfl
theorem eI (l : List Tree) (kv : Value) (i : Int) : evCode (cx0 _) (rg 5) (stL l kv i) (nrm kx) = some (l, kv, W (i + 1)) := by kernel_rfl
noncomputable def ops5 : Array Oper := match rg 4 with | .region _ ops _ => ops | _ => #[]
theorem rg5 : rg 4 = .region 5 ops5 false := by kernel_rfl
noncomputable def o5 (i : Nat) : Oper := ops5.getD i dOper
theorem l5 : ops5.toList = [o5 0, o5 1, o5 2, o5 3, o5 4, o5 5] ++ [o5 6, o5 7, o5 8] := by kernel_rfl
def kp (st : S2) : Option ((List Tree × Value × Int) × Value × Int × AV) := match kx st, get st.1 14, get st.1 15, get st.1 19 with
  | some r, .p (.v x), .p (.v (.int .i64 j)), .p y => some (r, x, j, y)
  | _, _, _, _ => none
theorem eP (l : List Tree) (kv : Value) (i : Int) : evOps (cx0 _) ops5 [o5 0, o5 1, o5 2, o5 3, o5 4, o5 5] (stL l kv i) kp = if 0 ≤ i then (if i < (l.length : Int) then some ((l, kv, i), kv, i, aTree.enc (l.getD i.toNat default)) else none) else none := by kernel_rfl
theorem d5 : ∀ o ∈ [o5 0, o5 1, o5 2, o5 3, o5 4, o5 5], ∀ d, o.dst = some d → d < N := ops_dst (by kernel_rfl)
theorem N23 : 23 ≤ N := Nat.le_of_ble_eq_true (by kernel_rfl)
structure Fb (A : Nat → Prop) (l : List Tree) (kv : Value) (i : Int) (a : Act) (w : World) : Prop where
  size : a.tmps.size = N
  defers : a.defers = []
  lt : ∀ b, A b → b < w.heap.size
  t0 : Rep w A (a.tmps.getD 0 undef) (.sl .tree l)
  t3 : a.tmps.getD 3 undef = kv
  t4 : a.tmps.getD 4 undef = .int .i64 i
theorem n_le : N ≤ XID := Nat.le_of_ble_eq_true (by kernel_rfl)
section
variable {A : Nat → Prop} {l : List Tree} {kv : Value} {i : Int} {a : Act} {w : World}
theorem mkR (h : Fb A l kv i a w) : R ⟨w, fun _ => False, A, none⟩ N (get (stL l kv i).1) (getB (stL l kv i).2) a w := by
  refine ⟨A, fun _ => none, ⟨⟨rfl, rfl, rfl, Nat.le_refl _, fun _ _ _ => rfl, Nat.le_refl _⟩, fun s => ?_, fun id x hx => (by cases hx), fun id id' x x' bb k1 k2 hx => (by cases hx), fun _ _ => rfl, fun b hb => .inl hb, h.lt, fun id k b q hk => (by cases hk), h.defers, h.size, fun _ h => (by cases h), fun _ _ _ hx => (by cases hx)⟩⟩
  unfold stL
  simp only [Ev.get]
  cases hs0 : Nat.beq 0 s with
  | true => have := beq_iff.1 hs0; subst this; exact h.t0
  | false =>
    cases hs3 : Nat.beq 3 s with
    | true => have := beq_iff.1 hs3; subst this; show Rep _ _ _ _; rw [h.t3]; exact .v _
    | false =>
      cases hs4 : Nat.beq 4 s with
      | true => have := beq_iff.1 hs4; subst this; show Rep _ _ _ _; rw [h.t4]; exact .v _
      | false => trivial
theorem exR {a' : Act} {w' : World} {st' : S2} (hx : kx st' = some (l, kv, i)) (hR : R ⟨w, fun _ => False, A, none⟩ N (get st'.1) (getB st'.2) a' w') : ∃ A', Fb A' l kv i a' w' ∧ (∀ b, A' b → A b ∨ w.heap.size ≤ b) ∧ BelowD w w' := by
  obtain ⟨ro, β, h⟩ := hR
  unfold kx at hx
  split at hx
  · rename_i h0 h3 h4
    cases hx
    have s0 := h.slots 0
    have s3 := h.slots 3
    have s4 := h.slots 4
    rw [h0] at s0; rw [h3] at s3; rw [h4] at s4
    refine ⟨ro, ⟨h.size, h.defers, h.roLt, s0, rep_v_inv (show Rep w' ro (a'.tmps.getD 3 undef) (.v kv) from s3), rep_v_inv (show Rep w' ro (a'.tmps.getD 4 undef) (.v (.int .i64 i)) from s4)⟩, fun b hb => ?_, ofX h.below⟩
    rcases h.roUp b hb with h | h | h
    · exact .inl h
    · exact .inr h
    · exact h.elim
  · cases hx
end
structure TInv (w0 : World) (l0 : List Tree) (kv : Value) (i : Nat) (a : Act) (w : World) : Prop where
  le : i ≤ l0.length
  fb : ∃ A fp, Fb A l0 kv i a w ∧ (∀ b ∈ fp, ¬ A b) ∧ OwnK w fp kv (l0.take i ++ List.replicate (l0.length - i) default) ∧ fp.Nodup ∧ ∀ b ∈ fp, w0.heap.size ≤ b ∧ b < w.heap.size
  chg : BelowD w0 w
theorem rep_tree {w : World} {A : Nat → Prop} {l : List Tree} {v : Value} (h : Rep w A v (.sl .tree l)) : ∃ B c, v = .slice B l.length c := by
  cases h with
  | sl B cap => exact ⟨B, cap, rfl⟩
theorem wpos {i : Nat} (h : i < 9223372036854775807) : W ((i : Int) + 1) = ((i + 1 : Nat) : Int) := by
  show IntKind.i64.wrap ((i : Int) + 1) = _
  rw [IntKind.wrap_i64]; omega
theorem splice_at {cur vs : List Value} {off q : Nat} (h : off + vs.length ≤ cur.length) : (cur.take off ++ vs ++ cur.drop (off + vs.length))[q]? = if off ≤ q ∧ q < off + vs.length then vs[q - off]? else cur[q]? := by
  have hl : (cur.take off).length = off := by rw [List.length_take]; omega
  by_cases h1 : q < off
  · rw [if_neg (by omega), List.append_assoc, List.getElem?_append_left (by omega), List.getElem?_take, if_pos h1]
  · by_cases h2 : q < off + vs.length
    · rw [if_pos ⟨by omega, h2⟩, List.getElem?_append_left (by rw [List.length_append, hl]; omega), List.getElem?_append_right (by omega), hl]
    · rw [if_neg (by omega), List.getElem?_append_right (by rw [List.length_append, hl]; omega), List.length_append, hl, List.getElem?_drop]
      congr 1; omega
theorem getD_app {i : Nat} {l0 : List Tree} (hi : i < l0.length) {t : Tree} (ht : t = l0[i]) : (l0.take i ++ List.replicate (l0.length - i) default).set i t = l0.take (i + 1) ++ List.replicate (l0.length - (i + 1)) default := by
  have hl : (l0.take i).length = i := by rw [List.length_take]; omega
  subst ht
  rw [List.set_append, if_neg (by omega), hl, Nat.sub_self, List.take_succ_eq_append_getElem hi, List.append_assoc]
  congr 1
  rw [show l0.length - i = (l0.length - (i + 1)) + 1 by omega, List.replicate_succ]; rfl
theorem T27z : szP PP 33 = some 6 := by kernel_rfl
theorem round (m : Nat) (ih : ∀ t : Tree, SizeOf.sizeOf t ≤ m → tokT t = true → ∀ (w : World) (A : Nat → Prop) (v : Value), (∀ b, A b → b < w.heap.size) → Rep w A v (aTree.enc t) → Calls PP 6 #[v] w (Cpy w t))
    {l0 : List Tree} (hm : SizeOf.sizeOf l0 ≤ m + 1) (hok : tokL l0 = true) {w0 : World} {kv : Value} {i : Nat} {a : Act} {w : World} (hI : TInv w0 l0 kv i a w) {Q : Exit → Act → World → Prop}
    (hn : ∀ a' w', i < l0.length → TInv w0 l0 kv (i + 1) a' w' → Q .normal a' w') (hx : ∀ a' w', TInv w0 l0 kv l0.length a' w' → Q (.exit 0) a' w') :
    (hdC.seq ((Code.block 1 (rg 4)).seq (rg 5))).wp PP Q a w := by
  obtain ⟨A, fp, hF, hdis, hown, hnd, hfp⟩ := hI.fb
  have hR := mkR hF
  obtain ⟨e, st1, hk1, hto1⟩ := evCode_ok (P := PP) rfl mixed (callsOk (cs := []) (ls := []) trivial) hdC (stL l0 kv i) kc (by kernel_rfl) ⟨lo (by kernel_rfl), trivial, trivial⟩ (r := if i < l0.length then (true, l0, kv, (i : Int)) else (false, l0, kv, (i : Int))) (by
    refine (eH l0 kv (i : Int)).trans ?_
    by_cases c : i < l0.length
    · rw [if_pos (by rw [decide_eq_true_eq]; omega), if_pos c]
    · rw [if_neg (by rw [decide_eq_true_eq]; omega), if_neg c])
  have hlen : (l0.take i ++ List.replicate (l0.length - i) (default : Tree)).length = l0.length := by
    rw [List.length_append, List.length_take, List.length_replicate]; have := hI.le; omega
  by_cases hi : i < l0.length
  · rw [if_pos hi] at hk1
    obtain ⟨rfl, hx1⟩ : e = .normal ∧ kx st1 = some (l0, kv, (i : Int)) := by
      unfold kc at hk1
      split at hk1
      · split at hk1
        · rename_i r hr; cases hk1; exact ⟨rfl, hr⟩
        · cases hk1
      · split at hk1
        · cases hk1
        · cases hk1
      · cases hk1
    refine wp_seq (hto1 _ _ _ _ hR fun a1 w1 hR1 => ?_)
    obtain ⟨A1, hF1, hA1, hB1⟩ := exR hx1 hR1
    show Code.wp _ _ _ _ _
    refine wp_seq (wp_block ?_)
    rw [rg5]
    refine wp_region_list ?_
    rw [l5]
    obtain ⟨st', hkp, hpre⟩ := evOps_pre (P := PP) (N := N) (ops := ops5) rfl (callsOk (cs := []) (ls := []) trivial) [o5 6, o5 7, o5 8] _ _ kp d5 ((eP l0 kv (i : Int)).trans (by rw [if_pos (Int.natCast_nonneg _), if_pos (by omega)]))
    refine hpre _ a1 w1 _ (mkR hF1) fun a3 w3 hR3 => ?_
    obtain ⟨hkx, h14, h15, h19, hsz3⟩ : kx st' = some (l0, kv, (i : Int)) ∧ a3.tmps.getD 14 undef = kv ∧ a3.tmps.getD 15 undef = .int .i64 i ∧ (∃ A3 : Nat → Prop, (∀ b, A3 b → b < w3.heap.size) ∧ Rep w3 A3 (a3.tmps.getD 19 undef) (aTree.enc (l0.getD i default))) ∧ a3.tmps.size = N := by
      obtain ⟨ro, β, h0⟩ := hR3
      unfold kp at hkp
      split at hkp
      · rename_i r x j y hr hx hj hy
        have s14 := h0.slots 14
        have s15 := h0.slots 15
        have s19 := h0.slots 19
        rw [hx] at s14; rw [hj] at s15; rw [hy] at s19
        cases hkp
        exact ⟨hr, rep_v_inv (show Rep w3 ro (a3.tmps.getD 14 undef) (.v kv) from s14), rep_v_inv (show Rep w3 ro (a3.tmps.getD 15 undef) (.v (.int .i64 i)) from s15), ⟨ro, h0.roLt, by rw [Int.toNat_natCast] at s19; exact s19⟩, h0.size⟩
      · cases hkp
    obtain ⟨A3, hF3, hA3, hB3⟩ := exR hkx hR3
    obtain ⟨Aq, hAq, r19⟩ := h19
    have hg : l0.getD i default = l0[i] := by simp [List.getD_eq_getElem?_getD, hi]
    have hszt : SizeOf.sizeOf l0[i] ≤ m := by
      have h1 := List.sizeOf_lt_of_mem (List.getElem_mem hi)
      omega
    obtain ⟨c6, e6, e61, e62⟩ : ∃ c, (o5 6).op = .call c ∧ c.callee = .value (.func 6) ∧ c.args = #[.tmp 19] := ⟨match (o5 6).op with | .call c => c | _ => default, by kernel_rfl, by kernel_rfl, by kernel_rfl⟩
    refine step_c (d := 20) (by kernel_rfl) (by kernel_rfl) (run_call1 e6 e61 e62 (by kernel_rfl) rfl) ?_
    refine (ih l0[i] hszt (tokL_get hok hi) w3 Aq _ hAq (hg ▸ r19)).mono fun e w4 ⟨v4, fp4, he, hB4, ⟨kv4, hv4, hown4, hnd4⟩, hfp4⟩ => ⟨v4, he, ?_⟩
    have n20 : 20 < a3.tmps.size := by rw [hsz3]; have := N23; omega
    generalize ha4 : a3.put (some 20) v4 = a4
    have z4 : a4.tmps.size = N := by rw [← ha4, put_size, hsz3]
    have g4 : ∀ j, j ≠ 20 → a4.tmps.getD j undef = a3.tmps.getD j undef := fun j hj => by rw [← ha4, put_getD n20, if_neg (Ne.symm hj)]
    have g20 : a4.tmps.getD 20 undef = v4 := by rw [← ha4, put_getD n20, if_pos rfl]
    have d4 : a4.defers = [] := by rw [← ha4]; exact hF3.defers
    clear ha4
    have b3 : BelowD w w3 := BelowD.trans hB1 hB3
    have b4 : BelowD w w4 := BelowD.trans b3 hB4
    generalize hL : l0.take i ++ List.replicate (l0.length - i) (default : Tree) = L at hown hlen
    have hLne : L ≠ [] := fun e => by rw [e] at hlen; simp at hlen; omega
    cases hown with
    | nil => exact absurd rfl hLne
    | cons b cap _ fps kvs cur tt hn0 hcap hmax hz hh hc hk hsub =>
      obtain ⟨hbn, hfn⟩ := List.nodup_cons.1 hnd
      have hbw : b < w.heap.size := (hfp b List.mem_cons_self).2
      have hh4 : w4.heap[b]? = some (.cells cur tt (0, 0)) := (b4.block b hbw).trans hh
      have hiL : i < L.length := by omega
      have i6 : i * 6 + 6 ≤ L.length * 6 := by omega
      have c6 : L.length * 6 ≤ cap * 6 := Nat.mul_le_mul_right 6 hcap
      -- the element's place
      refine step_v (d := 21) (v := .pointer (some ⟨b, i * 6, none⟩)) (w' := w4) (by kernel_rfl) (by kernel_rfl) ?_ ?_
      · have e : (o5 7).op = .indexAddr 31 (.tmp 14) (.tmp 15) := by kernel_rfl
        have e1 : a4.eval (.tmp 14) = .slice (some ⟨b, 0, none⟩) L.length cap := (g4 14 (by decide)).trans h14
        have e2 : a4.eval (.tmp 15) = .int .i64 (i : Int) := (g4 15 (by decide)).trans h15
        simp only [execOp, e, e1, e2]
        exact run_val (α := Unit) (run_index (P := PP) (t := 31) (el := 33) (by kernel_rfl) T27z hiL w4)
      have n21 : 21 < a4.tmps.size := by rw [z4]; have := N23; omega
      generalize ha5 : a4.put (some 21) (.pointer (some ⟨b, i * 6, none⟩)) = a5
      have z5 : a5.tmps.size = N := by rw [← ha5, put_size, z4]
      have g5 : ∀ j, j ≠ 21 → a5.tmps.getD j undef = a4.tmps.getD j undef := fun j hj => by rw [← ha5, put_getD n21, if_neg (Ne.symm hj)]
      have g521 : a5.tmps.getD 21 undef = .pointer (some ⟨b, i * 6, none⟩) := by rw [← ha5, put_getD n21, if_pos rfl]
      have d5' : a5.defers = [] := by rw [← ha5]; exact d4
      clear ha5
      obtain ⟨yq, nq, eq4⟩ : ∃ y n, kv4 = .slice y l0[i].kids.length n := by
        obtain ⟨y, n, e⟩ := mark.OwnK.sl hown4; exact ⟨y, n, e⟩
      have cells4 : v4.cells.toList = [.bool l0[i].inn, .int .i64 l0[i].p.a, .int .i64 l0[i].p.b, .int .i64 l0[i].p.c, .int .i64 l0[i].p.d, kv4] := by rw [hv4]; rfl
      have size4 : v4.cells.size = 6 := by rw [← Array.length_toList, cells4]; rfl
      have one4 : ∀ x ∈ v4.cells.toList, x.oneCell' = true := by
        rw [cells4, eq4]; intro x hx
        simp only [List.mem_cons, List.not_mem_nil, or_false] at hx
        rcases hx with rfl | rfl | rfl | rfl | rfl | rfl <;> rfl
      have hst := run_storeAt (P := PP) (t := 33) (tt := tt) (v := v4) (b := b) (off := i * 6) (w := w4) (T27z.trans (congrArg some size4.symm)) hh4 (by rw [size4]; omega) one4
      generalize hcur5 : (cur.toList.take (i * 6) ++ v4.cells.toList ++ cur.toList.drop (i * 6 + v4.cells.toList.length)).toArray = cur5 at hst
      generalize hw5 : w4.setRow b cur5 = w5 at hst
      refine step_s (w' := w5) (by kernel_rfl) (by kernel_rfl) (run_storeX (t := 33) (x := .tmp 21) (y := .tmp 20) (p := .pointer (some ⟨b, i * 6, none⟩)) (v := v4) (by kernel_rfl) g521 ((g5 20 (by decide)).trans g20) hst) (wpList_nil ?_)
      have hh5 : w5.heap[b]? = some (.cells cur5 tt (0, 0)) := by rw [← hw5]; exact setRow_heap w4 b cur cur5 tt _ hh4
      have ot5 : ∀ x, x ≠ b → w5.heap[x]? = w4.heap[x]? := fun x hx => by rw [← hw5]; exact setRow_other w4 b x cur5 hx
      have sz5 : w5.heap.size = w4.heap.size := by rw [← hw5]; simp [World.setRow]
      have os5 : w5.os = w4.os ∧ w5.tape = w4.tape ∧ w5.output = w4.output ∧ w5.drawn = w4.drawn := by subst hw5; exact ⟨rfl, rfl, rfl, rfl⟩
      have hlook : ∀ q, cur5[q]? = if i * 6 ≤ q ∧ q < i * 6 + 6 then v4.cells.toList[q - i * 6]? else cur[q]? := fun q => by
        rw [← hcur5, List.getElem?_toArray, splice_at (by rw [Array.length_toList, Array.length_toList, size4]; omega), Array.length_toList, size4, ← Array.getElem?_toList (xs := cur)]
      have hsz5 : cur5.size = cur.size := by
        rw [← hcur5, List.size_toArray, List.length_append, List.length_append, List.length_take, List.length_drop, Array.length_toList, Array.length_toList, size4]; omega
      clear hst hw5 hcur5
      have bA3 : ¬ A3 b := fun h => by
        rcases hA3 b h with h | h
        · rcases hA1 b h with h | h
          · exact hdis b List.mem_cons_self h
          · omega
        · have := hB1.size; omega
      have hF5 : Fb A3 l0 (.slice (some ⟨b, 0, none⟩) L.length cap) i a5 w5 := by
        refine ⟨z5, d5', fun x hx => by have := hF3.lt x hx; have := hB4.size; omega, ?_, ?_, ?_⟩
        · rw [g5 0 (by decide), g4 0 (by decide)]
          exact hF3.t0.mono (fun x hx => hx) fun x hx => (ot5 x fun e => bA3 (e ▸ hx)).trans (hB4.block x (hF3.lt x hx))
        · rw [g5 3 (by decide), g4 3 (by decide)]; exact hF3.t3
        · rw [g5 4 (by decide), g4 4 (by decide)]; exact hF3.t4
      show Code.wp PP (rg 5) Q a5 w5
      obtain ⟨st6, hx6, hto6⟩ := peel (by kernel_rfl) (lo (by kernel_rfl)) (eI l0 (.slice (some ⟨b, 0, none⟩) L.length cap) (i : Int))
      refine hto6 _ _ _ _ (mkR hF5) fun a6 w6 hR6 => ?_
      obtain ⟨A6, hF6, hA6, hB6⟩ := exR hx6 hR6
      have h62 : i < 9223372036854775807 := by
        have : cap ≤ maxLen := hmax
        unfold maxLen at this
        omega
      rw [wpos h62] at hF6
      refine hn a6 w6 hi ⟨by omega, ?_, ?_⟩
      · -- the row as it is now
        have kdn : ∀ j, j < L.length → ∀ x ∈ fps j, x ≠ b := fun j hj x hx e => hbn (e ▸ mem_fps hj hx)
        have flt : ∀ j, j < L.length → ∀ x ∈ fps j, x < w.heap.size := fun j hj x hx => (hfp x (List.mem_cons_of_mem _ (mem_fps hj hx))).2
        have keep : ∀ x, x < w4.heap.size → x ≠ b → w6.heap[x]? = w4.heap[x]? := fun x hx hne => (hB6.block x (by omega)).trans (ot5 x hne)
        have hL' : (L.set i l0[i]).length = L.length := List.length_set ..
        have hLs : L.set i l0[i] = l0.take (i + 1) ++ List.replicate (l0.length - (i + 1)) default := by rw [← hL]; exact getD_app hi rfl
        have gi : ∀ j, j ≠ i → (L.set i l0[i]).getD j default = L.getD j default := fun j hj => by simp [List.getD_eq_getElem?_getD, List.getElem?_set, Ne.symm hj]
        have gii : (L.set i l0[i]).getD i default = l0[i] := by simp [List.getD_eq_getElem?_getD, hiL]
        have b4w : w.heap.size ≤ w4.heap.size := b4.size
        have b3w : w.heap.size ≤ w3.heap.size := b3.size
        have b6 : w4.heap.size ≤ w6.heap.size := by have := hB6.size; omega
        have own6 : OwnK w6 (b :: (List.range (L.set i l0[i]).length).flatMap (fun j => if j = i then fp4 else fps j)) (.slice (some ⟨b, 0, none⟩) (L.set i l0[i]).length cap) (L.set i l0[i]) := by
          refine OwnK.cons b cap (L.set i l0[i]) (fun j => if j = i then fp4 else fps j) (fun j => if j = i then kv4 else kvs j) cur5 tt (fun e => hLne (List.eq_nil_of_length_eq_zero (by rw [← hL', e]; rfl))) (by rw [hL']; exact hcap) hmax (by rw [hsz5]; exact hz) ((hB6.block b (by omega)).trans hh5) (fun j c v hj hc5 hv => ?_) (fun j hj => ?_) (fun j hj => ?_)
          · rw [hL'] at hj
            rw [hlook]
            by_cases hji : j = i
            · subst hji
              rw [if_pos ⟨by omega, by omega⟩, cells4]
              rw [gii] at hv
              rw [show j * 6 + c - j * 6 = c by omega]
              match c, hc5 with
              | 0, _ => cases hv; rfl
              | 1, _ => cases hv; rfl
              | 2, _ => cases hv; rfl
              | 3, _ => cases hv; rfl
              | 4, _ => cases hv; rfl
            · rw [if_neg (by omega)]
              rw [gi j hji] at hv
              exact hc j c v hj hc5 hv
          · rw [hL'] at hj
            rw [hlook]
            by_cases hji : j = i
            · subst hji
              rw [if_pos ⟨by omega, by omega⟩, cells4, if_pos rfl]
              rw [show j * 6 + 5 - j * 6 = 5 by omega]; rfl
            · rw [if_neg (by omega), if_neg hji]
              exact hk j hj
          · rw [hL'] at hj
            by_cases hji : j = i
            · subst hji
              simp only [if_pos]
              rw [gii]
              exact hown4.mono fun x hx => keep x (hfp4 x hx).2 fun e => by have := (hfp4 x hx).1; omega
            · simp only [if_neg hji]
              rw [gi j hji]
              exact (hsub j hj).mono fun x hx => (keep x (by have := flt j hj x hx; omega) (kdn j hj x hx)).trans (b4.block x (flt j hj x hx))
        rw [hLs] at own6
        have hlen2 : (l0.take (i + 1) ++ List.replicate (l0.length - (i + 1)) (default : Tree)).length = L.length := by rw [← hLs]; exact hL'
        rw [hlen2] at own6
        have bnd : ∀ j, j < L.length → ∀ x ∈ (if j = i then fp4 else fps j), (w0.heap.size ≤ x ∧ x < w6.heap.size) ∧ x ≠ b ∧ ¬ A6 x := fun j hj x hx => by
          have ha6 : ∀ y, A6 y → A y ∨ (w.heap.size ≤ y ∧ y < w3.heap.size) ∨ w5.heap.size ≤ y := fun y hy => by
            rcases hA6 y hy with h | h
            · have hlt := hF3.lt y h
              rcases hA3 y h with h | h
              · rcases hA1 y h with h | h
                · exact .inl h
                · exact .inr (.inl ⟨h, hlt⟩)
              · exact .inr (.inl ⟨Nat.le_trans hB1.size h, hlt⟩)
            · exact .inr (.inr h)
          by_cases hji : j = i
          · rw [if_pos hji] at hx
            have := hfp4 x hx
            have := hI.chg.size
            refine ⟨⟨by omega, by omega⟩, by omega, fun h => ?_⟩
            rcases ha6 x h with h | h | h
            · have := hF.lt x h; omega
            · omega
            · omega
          · rw [if_neg hji] at hx
            have h1 := hfp x (List.mem_cons_of_mem _ (mem_fps hj hx))
            refine ⟨⟨h1.1, by omega⟩, kdn j hj x hx, fun h => ?_⟩
            rcases ha6 x h with h | h | h
            · exact hdis x (List.mem_cons_of_mem _ (mem_fps hj hx)) h
            · omega
            · omega
        refine ⟨A6, _, hF6, fun x hx => ?_, own6, List.nodup_cons.2 ⟨fun h => ?_, nodup_mk (fun j hj => ?_) fun j j' x hj hj' hx hx' => ?_⟩, fun x hx => ?_⟩
        · rcases List.mem_cons.1 hx with rfl | hx
          · intro h
            rcases hA6 x h with h | h
            · exact bA3 h
            · omega
          · obtain ⟨j, hj, hx⟩ := List.mem_flatMap.1 hx
            exact (bnd j (List.mem_range.1 hj) x hx).2.2
        · obtain ⟨j, hj, hx⟩ := List.mem_flatMap.1 h
          exact (bnd j (List.mem_range.1 hj) b hx).2.1 rfl
        · by_cases hji : j = i
          · rw [if_pos hji]; exact hnd4
          · rw [if_neg hji]; exact nodup_fp hfn hj
        · by_cases hji : j = i
          · by_cases hji' : j' = i
            · omega
            · rw [if_pos hji] at hx; rw [if_neg hji'] at hx'
              have := hfp4 x hx; have := flt j' hj' x hx'; omega
          · by_cases hji' : j' = i
            · rw [if_neg hji] at hx; rw [if_pos hji'] at hx'
              have := hfp4 x hx'; have := flt j hj x hx; omega
            · rw [if_neg hji] at hx; rw [if_neg hji'] at hx'
              exact nodup_fps hfn hj hj' hx hx'
        · rcases List.mem_cons.1 hx with rfl | hx
          · have := hfp x List.mem_cons_self
            exact ⟨this.1, by omega⟩
          · obtain ⟨j, hj, hx⟩ := List.mem_flatMap.1 hx
            exact (bnd j (List.mem_range.1 hj) x hx).1
      · have : BelowD w0 w5 := by
          have c4 := BelowD.trans hI.chg b4
          refine ⟨⟨os5.1.trans c4.os, os5.2.1.trans c4.tape, os5.2.2.1.trans c4.output, by rw [sz5]; exact c4.size, fun x hx => ?_⟩, by rw [os5.2.2.2]; exact c4.drawn⟩
          exact (ot5 x fun e => by have := (hfp b List.mem_cons_self).1; omega).trans (c4.block x hx)
        exact BelowD.trans this hB6
  · rw [if_neg hi] at hk1
    have hie : i = l0.length := by have := hI.le; omega
    obtain ⟨rfl, hx1⟩ : e = .exit 0 ∧ kx st1 = some (l0, kv, (i : Int)) := by
      unfold kc at hk1
      split at hk1
      · split at hk1
        · cases hk1
        · cases hk1
      · split at hk1
        · rename_i r hr; cases hk1; exact ⟨rfl, hr⟩
        · cases hk1
      · cases hk1
    refine wp_seq (hto1 _ _ _ _ hR fun a1 w1 hR1 => ?_)
    obtain ⟨A1, hF1, hA1, hB1⟩ := exR hx1 hR1
    subst hie
    refine hx a1 w1 ⟨Nat.le_refl _, ⟨A1, fp, hF1, fun b hb h => ?_, hown.mono fun b hb => hB1.block b (hfp b hb).2, hnd, fun b hb => ⟨(hfp b hb).1, by have := (hfp b hb).2; have := hB1.size; omega⟩⟩, BelowD.trans hI.chg hB1⟩
    rcases hA1 b h with h | h
    · exact hdis b hb h
    · have := (hfp b hb).2; omega
theorem tail {w0 : World} {l0 : List Tree} {kv : Value} {a : Act} {w : World} (hI : TInv w0 l0 kv l0.length a w) : ((rg 6).seq .ret).wp PP (bodyPost PP Try.f17 (CpyL w0 l0)) a w := by
  obtain ⟨A, fp, hF, hdis, hown, hnd, hfp⟩ := hI.fb
  rw [show rg 6 = .region 6 #[(match rg 6 with | .region _ ops _ => ops.getD 0 dOper | _ => dOper), (match rg 6 with | .region _ ops _ => ops.getD 1 dOper | _ => dOper)] false from by kernel_rfl]
  refine wp_seq (wp_region_list ?_)
  have n22 : 22 < a.tmps.size := by rw [hF.size]; have := N23; omega
  have n2 : 2 < (a.put (some 22) kv).tmps.size := by rw [put_size]; omega
  refine step_v (d := 22) (v := kv) (w' := w) (by kernel_rfl) (by kernel_rfl) (run_mv (x := 3) (.inl (by kernel_rfl)) hF.t3) ?_
  refine step_v (d := 2) (v := kv) (w' := w) (by kernel_rfl) (by kernel_rfl) (run_mv (x := 22) (.inr (by kernel_rfl)) (by rw [put_getD n22, if_pos rfl])) (wpList_nil ?_)
  rw [List.take_length, Nat.sub_self, List.replicate_zero, List.append_nil] at hown
  refine wp_ret ⟨hF.defers, kv, ?_, kv, fp, rfl, hI.chg, hown, hnd, hfp⟩
  have hr : Try.f17.results.toList = [.tmp 2] := by kernel_rfl
  have := run_results (P := PP) (fn := Try.f17) (tmps := ((a.put (some 22) kv).put (some 2) kv).tmps) (w := w) (vs := [kv]) (by rw [hr]; rfl) (fun i r' v' e1 e2 => by
    rw [hr] at e1
    cases i with
    | zero =>
      simp at e1 e2; subst e1 e2
      show Sem.run PP (pure (((a.put (some 22) kv).put (some 2) kv).tmps.getD 2 undef)) w = _
      rw [put_getD n2, if_pos rfl]; rfl
    | succ i => simp at e1)
  simpa using this
theorem sl_own {w : World} {ro : Nat → Prop} {k : Blk} {n : Nat} (h : BoxRep w ro 0 k (.row 33 .tree (List.replicate n default))) : ∃ fp, OwnK w fp k.v (List.replicate n default) ∧ fp.Nodup ∧ ∀ b ∈ fp, k.own = some b := by
  obtain ⟨ht, hz, hn, ho, xs, ⟨hx, h | ⟨g, cap, cur, hv, hb, hg, hcap, hmax, hsz, htk⟩⟩, hc⟩ := h
  · have : n = 0 := by rw [h.2] at hn; simpa using hn.symm
    subst this
    exact ⟨[], by rw [h.1]; exact OwnK.nil none 0 (fun _ => rfl), List.nodup_nil, fun b hb => by cases hb⟩
  · by_cases h0 : n = 0
    · subst h0
      have hk0 : k.n = 0 := by simpa using hn
      exact ⟨[], by rw [hv, hk0]; exact OwnK.nil _ cap (fun h => by cases h), List.nodup_nil, fun b hb => by cases hb⟩
    · have hne : List.replicate n (default : Tree) ≠ [] := fun e => h0 (by have := congrArg List.length e; simpa using this)
      have hl : (List.replicate n (default : Tree)).length = n := List.length_replicate
      have hkn : k.n = n := by rw [hn, hl]
      have gd : ∀ j, j < n → (List.replicate n (default : Tree)).getD j default = default := fun j hj => by simp [List.getD_eq_getElem?_getD, hj]
      have cel : ∀ j c, j < n → c < 6 → ∃ x, cur[j * 6 + c]? = some x ∧ Rep w ro x (El.cell .tree default c) := fun j c hj hc' => by
        obtain ⟨x, h1, h2⟩ := hc j c (by rw [hl]; exact hj) hc'
        rw [gd j hj] at h2
        have h1 : xs[j * 6 + c]? = some x := h1
        rw [← htk, List.getElem?_take] at h1
        split at h1
        · exact ⟨x, by rw [← Array.getElem?_toList]; exact h1, h2⟩
        · cases h1
      have k5 : ∀ j, j < n → ∃ x, cur[j * 6 + 5]? = some x ∧ OwnK w [] x [] := fun j hj => by
        obtain ⟨x, h1, h2⟩ := cel j 5 hj (by omega)
        have h2 : Rep w ro x (.sl .tree []) := h2
        refine ⟨x, h1, ?_⟩
        generalize hq : ([] : List Tree) = q at h2
        have : ∃ B c, x = .slice B q.length c ∧ (B = none → c = 0) := by
          cases h2 with
          | sl B cap _ _ _ _ hnil => exact ⟨B, cap, rfl, hnil⟩
        obtain ⟨B, c, rfl, hB⟩ := this
        subst hq
        exact .nil B c hB
      let kvs : Nat → Value := fun j => (cur[j * 6 + 5]?).getD undef
      have hkv : ∀ j, j < n → cur[j * 6 + 5]? = some (kvs j) ∧ OwnK w [] (kvs j) [] := fun j hj => by
        obtain ⟨x, h1, h2⟩ := k5 j hj
        have : kvs j = x := by simp only [kvs, h1]; rfl
        exact ⟨by rw [this]; exact h1, by rw [this]; exact h2⟩
      have hfm : ∀ m : Nat, (List.range m).flatMap (fun _ => ([] : List Nat)) = [] := fun m => by induction m <;> simp_all
      have own := OwnK.cons (w := w) g cap (List.replicate n default) (fun _ => []) kvs cur k.t hne (by rw [hl, ← hkn]; exact hcap) hmax (by have h : cap * 6 ≤ cur.size := hsz; exact h) hg (fun j c v hj hc5 hv' => by
          rw [hl] at hj
          obtain ⟨x, h1, h2⟩ := cel j c hj (by omega)
          rw [gd j hj] at hv'
          rw [hv'] at h2
          rw [h1, rep_v_inv h2]) (fun j hj => (hkv j (by rw [hl] at hj; exact hj)).1) (fun j hj => by
          rw [hl] at hj
          rw [gd j hj]; exact (hkv j hj).2)
      rw [hfm, hl] at own
      rw [hv, hkn]
      exact ⟨[g], own, by simp, fun b hb => by simp at hb; subst hb; rw [ho, hv]; rfl⟩
theorem okS (m : Nat) (ih : ∀ t : Tree, SizeOf.sizeOf t ≤ m → tokT t = true → ∀ (w : World) (A : Nat → Prop) (v : Value), (∀ b, A b → b < w.heap.size) → Rep w A v (aTree.enc t) → Calls PP 6 #[v] w (Cpy w t))
    (l0 : List Tree) (hm : SizeOf.sizeOf l0 ≤ m + 1) (h47 : lt47 l0.length = true) (hok : tokL l0 = true) (w : World) (A : Nat → Prop) (v : Value) (hA : ∀ b, A b → b < w.heap.size) (hv : Rep w A v (.sl .tree l0)) : Calls PP 17 #[v] w (CpyL w l0) := by
  refine calls_of_wp Try.func17 (c := bd) (by kernel_rfl) ?_
  rw [shape]
  generalize ha0 : ({ tmps := #[v] ++ Array.replicate (Try.f17.ntmps - (#[v] : Array Value).size) undef, defers := [] } : Act) = a0
  have z0 : a0.tmps.size = N := by rw [← ha0]; kernel_rfl
  have d0 : a0.defers = [] := by rw [← ha0]
  have g0 : a0.tmps.getD 0 undef = v := by rw [← ha0]; kernel_rfl
  clear ha0
  have hR : R ⟨w, fun _ => False, A, none⟩ N (get (stA l0).1) (getB (stA l0).2) a0 w := by
    refine ⟨A, fun _ => none, ⟨⟨rfl, rfl, rfl, Nat.le_refl _, fun _ _ _ => rfl, Nat.le_refl _⟩, fun s => ?_, fun id x hx => (by cases hx), fun id id' x x' bb k1 k2 hx => (by cases hx), fun _ _ => rfl, fun b hb => .inl hb, hA, fun id k b q hk => (by cases hk), d0, z0, fun _ h => (by cases h), fun _ _ _ hx => (by cases hx)⟩⟩
    unfold stA
    simp only [Ev.get]
    cases hs0 : Nat.beq 0 s with
    | true => have := beq_iff.1 hs0; subst this; show Rep _ _ _ _; rw [g0]; exact hv
    | false => trivial
  have hE := eA l0
  rw [if_pos (Int.natCast_nonneg _), Int.toNat_natCast, if_pos h47] at hE
  obtain ⟨s1, h1, to1⟩ := peel (by kernel_rfl) (lo (by kernel_rfl)) hE
  obtain ⟨s2, h2, to2⟩ := peel (by kernel_rfl) (lo (by kernel_rfl)) h1
  obtain ⟨s3, h3, to3⟩ := peel (by kernel_rfl) (lo (by kernel_rfl)) h2
  refine wp_seq (to1 _ _ _ _ hR fun a1 w1 hR1 => ?_)
  show Code.wp _ _ _ _ _
  refine wp_seq (to2 _ _ _ _ hR1 fun a2 w2 hR2 => ?_)
  show Code.wp _ _ _ _ _
  refine wp_seq (wp_seq (to3 _ _ _ _ hR2 fun a3 w3 hR3 => ?_))
  show Code.wp _ _ _ _ _
  refine wp_block ?_
  obtain ⟨ro, β, h0⟩ := hR3
  unfold kA at h3
  split at h3
  · rename_i l id i e0 e3 e4
    split at h3
    · rename_i t mm hb
      simp only [Option.some.injEq, Prod.mk.injEq] at h3
      obtain ⟨rfl, rfl, rfl, rfl, rfl⟩ := h3
      have q0 := h0.slots 0
      have q3 := h0.slots 3
      have q4 := h0.slots 4
      rw [e0] at q0; rw [e3] at q3; rw [e4] at q4
      obtain ⟨k, hk, e3'⟩ := q3
      obtain ⟨k', hk', hbx, hox⟩ := h0.box _ _ hb
      rw [hk] at hk'; cases hk'
      obtain ⟨fp, hown, hnd, hfpk⟩ := sl_own hbx
      have hI : TInv w l k.v 0 a3 w3 := by
        refine ⟨Nat.zero_le _, ⟨ro, fp, ⟨h0.size, h0.defers, h0.roLt, q0, e3', rep_v_inv (show Rep w3 ro (a3.tmps.getD 4 undef) (.v (.int .i64 0)) from q4)⟩, fun b hb' => (hox b (hfpk b hb')).2, by simpa using hown, hnd, fun b hb' => ⟨?_, h0.βLt _ k b .one hk (hfpk b hb')⟩⟩, ofX h0.below⟩
        rcases (hox b (hfpk b hb')).1 with h | h
        · exact h
        · exact h.elim
      refine wp_loop (fun a' w' => ∃ i, TInv w l k.v i a' w') (fun a' _ => match a'.tmps.getD 4 undef with | .int _ n => l.length - n.toNat | _ => 0) ⟨0, hI⟩ fun a4 w4 ⟨i, hI4⟩ => ?_
      refine round m ih hm hok hI4 (fun a5 w5 hi hI5 => ?_) fun a5 w5 hI5 => ?_
      · refine ⟨⟨i + 1, hI5⟩, ?_⟩
        obtain ⟨_, _, hF4, _⟩ := hI4.fb
        obtain ⟨_, _, hF5, _⟩ := hI5.fb
        simp only [hF4.t4, hF5.t4, Int.toNat_natCast]
        omega
      · show ((rg 6).seq .ret).wp _ _ a5 w5
        exact tail hI5
    · cases h3
  · cases h3
end S

/-! ### the solid -/
namespace T
noncomputable def bd : Code := match Try.f6.body with | some c => c | none => .skip
noncomputable def rg (i : Nat) : Code := (rgs bd).getD i .skip
noncomputable def N : Nat := Try.f6.ntmps
noncomputable def cs : List (Nat × CE) := [(16, .fn eTP)]
noncomputable def cx0 (ρ : Type) : Cx ρ := mkCx PP cs []
theorem shape : bd = (rg 0).seq ((rg 1).seq ((rg 2).seq ((rg 3).seq ((rg 4).seq ((rg 5).seq .ret))))) := by kernel_rfl
noncomputable def op (i j : Nat) : Oper := match rg i with | .region _ ops _ => ops.getD j dOper | _ => dOper
theorem g4 : rg 4 = .region 4 #[op 4 0, op 4 1, op 4 2, op 4 3, op 4 4] false := by kernel_rfl
theorem g5 : rg 5 = .region 5 #[op 5 0, op 5 1] false := by kernel_rfl
def stA (t : Tree) : S2 := ([(0, .p (aTree.enc t))], [])
def kA (st : S2) : Option (Nat × Nat × Nat × List AV × List AV × List AV) := match get st.1 1, get st.1 2, get st.1 3 with
  | .ref i 0, .ref j 0, .ref k 0 => (match getB st.2 i, getB st.2 j, getB st.2 k with
    | some (some (.vr x)), some (some (.vr y)), some (some (.vr z)) => some (i, j, k, x, y, z)
    | _, _, _ => none)
  | _, _, _ => none
def zer : List AV := [.v (.bool false), .v (.int .i64 0), .v (.int .i64 0), .v (.int .i64 0), .v (.int .i64 0), .v (.slice none 0 0)]
def fil (t : Tree) : List AV := [.v (.bool t.inn), .v (.int .i64 t.p.a), .v (.int .i64 t.p.b), .v (.int .i64 t.p.c), .v (.int .i64 t.p.d), .v (.slice none 0 0)]
def arg (t : Tree) : List AV := [.v (.bool t.inn), .v (.int .i64 t.p.a), .v (.int .i64 t.p.b), .v (.int .i64 t.p.c), .v (.int .i64 t.p.d), .sl .tree t.kids]
theorem eA (t : Tree) : evCode (cx0 _) (rg 0) (stA t) (S.nrm fun s1 => evCode (cx0 _) (rg 1) s1 (S.nrm fun s2 => evCode (cx0 _) (rg 2) s2 (S.nrm fun s3 => evCode (cx0 _) (rg 3) s3 (S.nrm kA)))) = some (1, 2, 3, arg t, zer, fil t) := by kernel_rfl
theorem lo {ρ : Type} {cx : Cx ρ} {i : Nat} (h : (match rg i with | .region _ _ _ => true | _ => false) = true) : LoopsOk PP N cx (rg i) := by
  cases hr : rg i with
  | region => trivial
  | _ => rw [hr] at h; cases h
theorem peel {ρ : Type} (hC : AllFun PP cs) {i : Nat} {st : S2} {K : S2 → Option ρ} {r : ρ} (hd : dstOk N (rg i) = true) (hL : LoopsOk PP N (cx0 ρ) (rg i)) (h : evCode (cx0 _) (rg i) st (S.nrm K) = some r) : ∃ st', K st' = some r ∧ To PP N (rg i) st .normal st' := by
  obtain ⟨e, st', hk, hto⟩ := evCode_ok (P := PP) rfl mixed (callsOk (cs := cs) (ls := []) hC) (rg i) st (S.nrm K) hd hL h
  obtain ⟨rfl, hk⟩ := S.nrm_some hk
  exact ⟨st', hk, hto⟩
theorem N16 : 16 ≤ N := Nat.le_of_ble_eq_true (by kernel_rfl)
theorem ag27 : agP PP 33 = some true := by kernel_rfl
theorem vr_cells {w : World} {ro : Nat → Prop} {k : Blk} {xs : List Value} (h : BoxRep w ro 0 k (.vr (xs.map .v))) : ∃ b t, k.own = some b ∧ w.heap[b]? = some (.cells xs.toArray t (0, 0)) := by
  obtain ⟨b, c, t, h1, h2, h3, h4⟩ := h
  refine ⟨b, t, h1, ?_⟩
  have : c = xs.toArray := by
    apply Array.ext_getElem?
    intro i
    by_cases hi : i < xs.length
    · obtain ⟨x, hx, hr⟩ := h4 i (.v xs[i]) (by simp [hi])
      rw [hx, rep_v_inv hr]; simp [hi]
    · rw [Array.getElem?_eq_none (by rw [h3]; simpa using hi), Array.getElem?_eq_none (by simpa using hi)]
  rw [← this]; exact h2
def filV (t : Tree) : List Value := [.bool t.inn, .int .i64 t.p.a, .int .i64 t.p.b, .int .i64 t.p.c, .int .i64 t.p.d, .slice none 0 0]
def zerV : List Value := [.bool false, .int .i64 0, .int .i64 0, .int .i64 0, .int .i64 0, .slice none 0 0]
theorem fin {w0 w : World} {t : Tree} {b2 b3 tt2 tt3 : Nat} {a : Act} {kv : Value} {fp : List Nat} (hs : a.tmps.size = N) (hd : a.defers = []) (h2 : a.tmps.getD 2 undef = .pointer (some ⟨b2, 0, none⟩)) (h3 : a.tmps.getD 3 undef = .pointer (some ⟨b3, 0, none⟩)) (h13 : a.tmps.getD 13 undef = kv)
    (q2 : w.heap[b2]? = some (.cells zerV.toArray tt2 (0, 0))) (q3 : w.heap[b3]? = some (.cells (filV t).toArray tt3 (0, 0))) (hne : b2 ≠ b3) (hb2 : w0.heap.size ≤ b2) (hb3 : w0.heap.size ≤ b3) (hown : OwnK w fp kv t.kids) (hnd : fp.Nodup) (hfp : ∀ b ∈ fp, w0.heap.size ≤ b ∧ b < w.heap.size ∧ b ≠ b2 ∧ b ≠ b3) (hB : BelowD w0 w) :
    wpList PP #[op 4 0, op 4 1, op 4 2, op 4 3, op 4 4] (Exit.then (((rg 5).seq .ret).wp PP (bodyPost PP Try.f6 (Cpy w0 t))) (bodyPost PP Try.f6 (Cpy w0 t))) [op 4 3, op 4 4] a w := by
  have n14 : 14 < a.tmps.size := by rw [hs]; have := N16; omega
  obtain ⟨yq, nq, eq4⟩ := mark.OwnK.sl hown
  refine step_v (d := 14) (v := .pointer (some ⟨b3, 5, none⟩)) (w' := w) (by kernel_rfl) (by kernel_rfl) ?_ ?_
  · have e : (op 4 3).op = .fieldAddr 33 (.tmp 3) 2 := by kernel_rfl
    have ev : a.eval (.tmp 3) = .pointer (some ⟨b3, 0, none⟩) := h3
    have hf := run_fieldAt (P := PP) (s := 33) (f := 2) (k := 5) (t := 31) (by kernel_rfl) (ad := ⟨b3, 0, none⟩) rfl w
    simp only [execOp, e, ev]
    exact run_val (α := Unit) hf
  generalize ha1 : a.put (some 14) (.pointer (some ⟨b3, 5, none⟩)) = a1
  have z1 : a1.tmps.size = N := by rw [← ha1, put_size, hs]
  have d1 : a1.defers = [] := by rw [← ha1]; exact hd
  have g1 : ∀ j, j ≠ 14 → a1.tmps.getD j undef = a.tmps.getD j undef := fun j hj => by rw [← ha1, put_getD n14, if_neg (Ne.symm hj)]
  have g14 : a1.tmps.getD 14 undef = .pointer (some ⟨b3, 5, none⟩) := by rw [← ha1, put_getD n14, if_pos rfl]
  clear ha1
  have hst := run_storeAt (P := PP) (t := 31) (tt := tt3) (v := kv) (b := b3) (off := 5) (w := w) (by rw [eq4]; kernel_rfl) q3 (by rw [eq4]; exact Nat.le_refl 6) (by rw [eq4]; intro x hx; simp [Value.cells] at hx; subst hx; rfl)
  have hcells : kv.cells.toList = [kv] := by rw [eq4]; rfl
  rw [hcells] at hst
  have hcur : ((filV t).toArray.toList.take 5 ++ [kv] ++ (filV t).toArray.toList.drop (5 + [kv].length)).toArray = #[.bool t.inn, .int .i64 t.p.a, .int .i64 t.p.b, .int .i64 t.p.c, .int .i64 t.p.d, kv] := rfl
  rw [hcur] at hst
  generalize hS : (#[.bool t.inn, .int .i64 t.p.a, .int .i64 t.p.b, .int .i64 t.p.c, .int .i64 t.p.d, kv] : Array Value) = S at hst
  have sS : S.size = 6 := by rw [← hS]; rfl
  generalize hw5 : w.setRow b3 S = w5 at hst
  refine step_s (w' := w5) (by kernel_rfl) (by kernel_rfl) (run_storeX (t := 31) (x := .tmp 14) (y := .tmp 13) (p := .pointer (some ⟨b3, 5, none⟩)) (v := kv) (by kernel_rfl) g14 ((g1 13 (by decide)).trans h13) hst) (wpList_nil ?_)
  have q35 : w5.heap[b3]? = some (.cells S tt3 (0, 0)) := by rw [← hw5]; exact setRow_heap w b3 _ S tt3 _ q3
  have ot5 : ∀ x, x ≠ b3 → w5.heap[x]? = w.heap[x]? := fun x hx => by rw [← hw5]; exact setRow_other w b3 x S hx
  have sz5 : w5.heap.size = w.heap.size := by rw [← hw5]; simp [World.setRow]
  have os5 : w5.os = w.os ∧ w5.tape = w.tape ∧ w5.output = w.output ∧ w5.drawn = w.drawn := by subst hw5; exact ⟨rfl, rfl, rfl, rfl⟩
  clear hst hw5
  show Code.wp _ _ _ _ _
  rw [g5]
  refine wp_seq (wp_region_list ?_)
  refine step_v (d := 15) (v := .agg S) (w' := w5) (by kernel_rfl) (by kernel_rfl) (run_loadO (t := 33) (x := .tmp 3) (b := b3) (by kernel_rfl) ((g1 3 (by decide)).trans h3) (run_loadAgg (tt := tt3) ag27 tsol.S.T27z q35 sS)) ?_
  have n15 : 15 < a1.tmps.size := by rw [z1]; have := N16; omega
  generalize ha2 : a1.put (some 15) (.agg S) = a2
  have z2 : a2.tmps.size = N := by rw [← ha2, put_size, z1]
  have d2 : a2.defers = [] := by rw [← ha2]; exact d1
  have g2 : ∀ j, j ≠ 15 → a2.tmps.getD j undef = a1.tmps.getD j undef := fun j hj => by rw [← ha2, put_getD n15, if_neg (Ne.symm hj)]
  have g15 : a2.tmps.getD 15 undef = .agg S := by rw [← ha2, put_getD n15, if_pos rfl]
  clear ha2
  have h22 : a2.tmps.getD 2 undef = .pointer (some ⟨b2, 0, none⟩) := by rw [g2 2 (by decide), g1 2 (by decide)]; exact h2
  have q25 : w5.heap[b2]? = some (.cells zerV.toArray tt2 (0, 0)) := (ot5 b2 hne).trans q2
  have one : ∀ x ∈ S.toList, x.oneCell' = true := by
    rw [← hS, eq4]; intro x hx
    simp only [List.mem_cons, List.not_mem_nil, or_false] at hx
    rcases hx with rfl | rfl | rfl | rfl | rfl | rfl <;> rfl
  have hSt := run_storeAt (P := PP) (t := 33) (tt := tt2) (v := .agg S) (b := b2) (off := 0) (w := w5) (tsol.S.T27z.trans (congrArg some sS.symm)) q25 (Nat.le_of_eq ((Nat.zero_add _).trans sS)) one
  rw [List.take_zero, List.nil_append, List.drop_eq_nil_of_le (Nat.le_of_eq (by rw [Nat.zero_add]; exact sS.symm)), List.append_nil] at hSt
  have hSt : (Instr.storeAt 33 (.pointer (some ⟨b2, 0, none⟩)) (.agg S)).run PP w5 = .ok () (w5.setRow b2 S) := hSt
  generalize hw6 : w5.setRow b2 S = w6 at hSt
  have q26 : w6.heap[b2]? = some (.cells S tt2 (0, 0)) := by rw [← hw6]; exact setRow_heap w5 b2 _ S tt2 _ q25
  have ot6 : ∀ x, x ≠ b2 → w6.heap[x]? = w5.heap[x]? := fun x hx => by rw [← hw6]; exact setRow_other w5 b2 x S hx
  have sz6 : w6.heap.size = w5.heap.size := by rw [← hw6]; simp [World.setRow]
  have os6 : w6.os = w5.os ∧ w6.tape = w5.tape ∧ w6.output = w5.output ∧ w6.drawn = w5.drawn := by subst hw6; exact ⟨rfl, rfl, rfl, rfl⟩
  clear hw6
  refine step_s (w' := w6) (by kernel_rfl) (by kernel_rfl) (run_storeX (t := 33) (x := .tmp 2) (y := .tmp 15) (p := .pointer (some ⟨b2, 0, none⟩)) (v := .agg S) (by kernel_rfl) h22 g15 hSt) (wpList_nil ?_)
  refine wp_ret ⟨d2, .agg S, ?_, .agg S, fp, rfl, ?_, ⟨kv, by rw [← hS], ?_, hnd⟩, fun b hb => ⟨(hfp b hb).1, by rw [sz6, sz5]; exact (hfp b hb).2.1⟩⟩
  · have hr : Try.f6.results.toList = [.cell 2 33] := by kernel_rfl
    have hrun : (resV a2.tmps (.cell 2 33)).run PP w6 = .ok (.agg S) w6 := by
      simp only [resV]
      rw [h22, run_bind_ok (x := (⟨b2, 0, none⟩ : Addr)) (w' := w6) rfl]
      exact run_loadAgg (tt := tt2) ag27 tsol.S.T27z q26 sS
    have := run_results (P := PP) (fn := Try.f6) (tmps := a2.tmps) (w := w6) (vs := [.agg S]) (by rw [hr]; rfl) (fun i r' v' e1 e2 => by
      rw [hr] at e1
      cases i with
      | zero => simp at e1 e2; subst e1 e2; exact hrun
      | succ i => simp at e1)
    simpa using this
  · refine ⟨⟨(os6.1.trans os5.1).trans hB.os, (os6.2.1.trans os5.2.1).trans hB.tape, (os6.2.2.1.trans os5.2.2.1).trans hB.output, by rw [sz6, sz5]; exact hB.size, fun x hx => ?_⟩, by rw [os6.2.2.2, os5.2.2.2]; exact hB.drawn⟩
    exact ((ot6 x (by omega)).trans (ot5 x (by omega))).trans (hB.block x hx)
  · exact hown.mono fun x hx => (ot6 x (hfp x hx).2.2.1).trans (ot5 x (hfp x hx).2.2.2)
theorem ok (hC : AllFun PP cs) (m : Nat) (ih : ∀ (l0 : List Tree), SizeOf.sizeOf l0 ≤ m → lt47 l0.length = true → tokL l0 = true → ∀ (w : World) (A : Nat → Prop) (v : Value), (∀ b, A b → b < w.heap.size) → Rep w A v (.sl .tree l0) → Calls PP 17 #[v] w (CpyL w l0))
    (t : Tree) (hm : SizeOf.sizeOf t ≤ m + 1) (hok : tokT t = true) (w : World) (A : Nat → Prop) (v : Value) (hA : ∀ b, A b → b < w.heap.size) (hv : Rep w A v (aTree.enc t)) : Calls PP 6 #[v] w (Cpy w t) := by
  refine calls_of_wp Try.func6 (c := bd) (by kernel_rfl) ?_
  rw [shape]
  generalize ha0 : ({ tmps := #[v] ++ Array.replicate (Try.f6.ntmps - (#[v] : Array Value).size) undef, defers := [] } : Act) = a0
  have z0 : a0.tmps.size = N := by rw [← ha0]; kernel_rfl
  have d0 : a0.defers = [] := by rw [← ha0]
  have g0 : a0.tmps.getD 0 undef = v := by rw [← ha0]; kernel_rfl
  clear ha0
  have hR : R ⟨w, fun _ => False, A, none⟩ N (get (stA t).1) (getB (stA t).2) a0 w := by
    refine ⟨A, fun _ => none, ⟨⟨rfl, rfl, rfl, Nat.le_refl _, fun _ _ _ => rfl, Nat.le_refl _⟩, fun s => ?_, fun id x hx => (by cases hx), fun id id' x x' bb k1 k2 hx => (by cases hx), fun _ _ => rfl, fun b hb => .inl hb, hA, fun id k b q hk => (by cases hk), d0, z0, fun _ h => (by cases h), fun _ _ _ hx => (by cases hx)⟩⟩
    unfold stA
    simp only [Ev.get]
    cases hs0 : Nat.beq 0 s with
    | true => have := beq_iff.1 hs0; subst this; show Rep _ _ _ _; rw [g0]; exact hv
    | false => trivial
  obtain ⟨s1, h1, to1⟩ := peel hC (by kernel_rfl) (lo (by kernel_rfl)) (eA t)
  obtain ⟨s2, h2, to2⟩ := peel hC (by kernel_rfl) (lo (by kernel_rfl)) h1
  obtain ⟨s3, h3, to3⟩ := peel hC (by kernel_rfl) (lo (by kernel_rfl)) h2
  obtain ⟨s4, h4, to4⟩ := peel hC (by kernel_rfl) (lo (by kernel_rfl)) h3
  refine wp_seq (to1 _ _ _ _ hR fun a1 w1 hR1 => ?_)
  show Code.wp _ _ _ _ _
  refine wp_seq (to2 _ _ _ _ hR1 fun a2 w2 hR2 => ?_)
  show Code.wp _ _ _ _ _
  refine wp_seq (to3 _ _ _ _ hR2 fun a3 w3 hR3 => ?_)
  show Code.wp _ _ _ _ _
  refine wp_seq (to4 _ _ _ _ hR3 fun a4 w4 hR4 => ?_)
  show Code.wp _ _ _ _ _
  obtain ⟨ro, β, h0⟩ := hR4
  unfold kA at h4
  split at h4
  · rename_i i j k e1 e2 e3
    split at h4
    · rename_i x y z q1 q2 q3
      simp only [Option.some.injEq, Prod.mk.injEq] at h4
      obtain ⟨rfl, rfl, rfl, rfl, rfl, rfl⟩ := h4
      have p1 := h0.slots 1
      have p2 := h0.slots 2
      have p3 := h0.slots 3
      rw [e1] at p1; rw [e2] at p2; rw [e3] at p3
      obtain ⟨k1, c1, f1, o1, r1⟩ := p1
      obtain ⟨k2, c2, f2, o2, r2⟩ := p2
      obtain ⟨k3, c3, f3, o3, r3⟩ := p3
      obtain ⟨k1', f1', x1, ow1⟩ := h0.box _ _ q1
      obtain ⟨k2', f2', x2, ow2⟩ := h0.box _ _ q2
      obtain ⟨k3', f3', x3, ow3⟩ := h0.box _ _ q3
      rw [f1] at f1'; cases f1'
      rw [f2] at f2'; cases f2'
      rw [f3] at f3'; cases f3'
      obtain ⟨b2, t2, ob2, hh2⟩ := vr_cells (xs := zerV) x2
      obtain ⟨b3, t3, ob3, hh3⟩ := vr_cells (xs := filV t) x3
      rw [o2] at ob2; cases ob2
      rw [o3] at ob3; cases ob3
      have ne23 : c2 ≠ c3 := fun e => by
        subst e
        have := h0.inj 2 3 _ _ c2 k2 k3 q2 q3 f2 f3 o2 o3
        omega
      have up2 : w.heap.size ≤ c2 := by
        rcases (ow2 c2 o2).1 with h | h
        · exact h
        · exact h.elim
      have up3 : w.heap.size ≤ c3 := by
        rcases (ow3 c3 o3).1 with h | h
        · exact h
        · exact h.elim
      have lt2 : c2 < w4.heap.size := h0.βLt 2 k2 c2 .one f2 o2
      have lt3 : c3 < w4.heap.size := h0.βLt 3 k3 c3 .one f3 o3
      have hB4 := ofX h0.below
      obtain ⟨b1, cc1, t1, ob1, hh1, sz1, cel1⟩ := x1
      rw [o1] at ob1; cases ob1
      obtain ⟨kv, hkv, rkv⟩ := cel1 5 (.sl .tree t.kids) rfl
      have n16 : 16 ≤ a4.tmps.size := by rw [h0.size]; exact N16
      rw [g4]
      refine wp_seq (wp_region_list ?_)
      refine step_v (d := 11) (v := .pointer (some ⟨c1, 5, none⟩)) (w' := w4) (by kernel_rfl) (by kernel_rfl) ?_ ?_
      · have e : (op 4 0).op = .fieldAddr 26 (.tmp 1) 2 := by kernel_rfl
        have ev : a4.eval (.tmp 1) = .pointer (some ⟨c1, 0, none⟩) := r1
        have hf := run_fieldAt (P := PP) (s := 26) (f := 2) (k := 5) (t := 24) (by kernel_rfl) (ad := ⟨c1, 0, none⟩) rfl w4
        simp only [execOp, e, ev]
        exact run_val (α := Unit) hf
      generalize ha5 : a4.put (some 11) (.pointer (some ⟨c1, 5, none⟩)) = a5
      have z5 : a5.tmps.size = N := by rw [← ha5, put_size, h0.size]
      have d5 : a5.defers = [] := by rw [← ha5]; exact h0.defers
      have g5 : ∀ j, j ≠ 11 → a5.tmps.getD j undef = a4.tmps.getD j undef := fun j hj => by rw [← ha5, put_getD (by omega), if_neg (Ne.symm hj)]
      have g511 : a5.tmps.getD 11 undef = .pointer (some ⟨c1, 5, none⟩) := by rw [← ha5, put_getD (by omega), if_pos rfl]
      clear ha5
      refine step_v (d := 12) (v := kv) (w' := w4) (by kernel_rfl) (by kernel_rfl) ?_ ?_
      · have e : (op 4 1).op = .load 24 (.tmp 11) := by kernel_rfl
        have ev : a5.eval (.tmp 11) = .pointer (some ⟨c1, 5, none⟩) := g511
        simp only [execOp, e, ev, Instr.loadAt, Instr.sureAddr]
        refine run_val (α := Unit) ?_
        rw [run_bind_ok (x := ⟨c1, 5, none⟩) (w' := w4) rfl]
        unfold loadVar
        rw [run_bind_ok (pr_agg (P := PP) (t := 24) (b := false) (by kernel_rfl) w4)]
        simp only [Bool.false_eq_true, if_false, run_load]
        have : w4.cell? ⟨c1, 5, none⟩ = some kv := by simp [World.cell?, hh1, hkv]
        rw [this]
      have n16b : 16 ≤ a5.tmps.size := by rw [z5]; exact N16
      generalize ha6 : a5.put (some 12) kv = a6
      have z6 : a6.tmps.size = N := by rw [← ha6, put_size, z5]
      have d6 : a6.defers = [] := by rw [← ha6]; exact d5
      have g6 : ∀ j, j ≠ 12 → a6.tmps.getD j undef = a5.tmps.getD j undef := fun j hj => by rw [← ha6, put_getD (by omega), if_neg (Ne.symm hj)]
      have g612 : a6.tmps.getD 12 undef = kv := by rw [← ha6, put_getD (by omega), if_pos rfl]
      clear ha6
      obtain ⟨c6, e6, e61, e62⟩ : ∃ c, (op 4 2).op = .call c ∧ c.callee = .value (.func 17) ∧ c.args = #[.tmp 12] := ⟨match (op 4 2).op with | .call c => c | _ => default, by kernel_rfl, by kernel_rfl, by kernel_rfl⟩
      refine step_c (d := 13) (by kernel_rfl) (by kernel_rfl) (run_call1 e6 e61 e62 (by kernel_rfl) g612) ?_
      have hsz : SizeOf.sizeOf t.kids ≤ m ∧ lt47 t.kids.length = true ∧ tokL t.kids = true := by
        cases t with
        | mk bb pp ll =>
          simp only [tokT, Bool.and_eq_true] at hok
          simp only [Tree.mk.sizeOf_spec] at hm
          exact ⟨by show SizeOf.sizeOf ll ≤ m; omega, hok⟩
      refine (ih t.kids hsz.1 hsz.2.1 hsz.2.2 w4 ro kv h0.roLt (rkv.mono (fun x hx => hx) fun _ _ => rfl)).mono fun e w5 ⟨kv5, fp5, he, hB5, hown5, hnd5, hfp5⟩ => ⟨kv5, he, ?_⟩
      have n16c : 16 ≤ a6.tmps.size := by rw [z6]; exact N16
      generalize ha7 : a6.put (some 13) kv5 = a7
      have z7 : a7.tmps.size = N := by rw [← ha7, put_size, z6]
      have d7 : a7.defers = [] := by rw [← ha7]; exact d6
      have g7 : ∀ j, j ≠ 13 → a7.tmps.getD j undef = a6.tmps.getD j undef := fun j hj => by rw [← ha7, put_getD (by omega), if_neg (Ne.symm hj)]
      have g713 : a7.tmps.getD 13 undef = kv5 := by rw [← ha7, put_getD (by omega), if_pos rfl]
      clear ha7
      have r2' : a4.tmps.getD 2 undef = .pointer (some ⟨c2, 0, none⟩) := r2
      have r3' : a4.tmps.getD 3 undef = .pointer (some ⟨c3, 0, none⟩) := r3
      refine fin (tt2 := t2) (tt3 := t3) z7 d7 (by rw [g7 2 (by decide), g6 2 (by decide), g5 2 (by decide)]; exact r2') (by rw [g7 3 (by decide), g6 3 (by decide), g5 3 (by decide)]; exact r3') g713 ((hB5.block c2 lt2).trans hh2) ((hB5.block c3 lt3).trans hh3) ne23 up2 up3 hown5 hnd5 (fun b hb => ?_) (BelowD.trans hB4 hB5)
      have := hfp5 b hb
      have := hB4.size
      exact ⟨by omega, by omega, by omega, by omega⟩
    · cases h4
  · cases h4
end T
theorem both (hC : AllFun PP T.cs) : ∀ m : Nat, (∀ t : Tree, SizeOf.sizeOf t ≤ m → tokT t = true → ∀ (w : World) (A : Nat → Prop) (v : Value), (∀ b, A b → b < w.heap.size) → Rep w A v (aTree.enc t) → Calls PP 6 #[v] w (Cpy w t)) ∧
    ∀ (l0 : List Tree), SizeOf.sizeOf l0 ≤ m → lt47 l0.length = true → tokL l0 = true → ∀ (w : World) (A : Nat → Prop) (v : Value), (∀ b, A b → b < w.heap.size) → Rep w A v (.sl .tree l0) → Calls PP 17 #[v] w (CpyL w l0) := by
  intro m
  induction m with
  | zero =>
    refine ⟨fun t hm => ?_, fun l hm => ?_⟩
    · have : 0 < SizeOf.sizeOf t := by cases t; simp; omega
      omega
    · have : 0 < SizeOf.sizeOf l := by cases l <;> simp <;> omega
      omega
  | succ m ih => exact ⟨T.ok hC m ih.2, S.okS m ih.1⟩
end tsol
noncomputable def laws_toSolid.f (k : Nat) (t : Tree) : Option Tree := if tokT t = true then some t else none
noncomputable def laws_toSolid.e (k : Nat) : FE := { α := Tree × Unit, β := Tree, args := lCons aTree lNil, ret := rSol, f := fun p => laws_toSolid.f k p.1 }
theorem laws_toSolid.okW (hC : Fun Try.prog 16 tsol.eTP.G) (k : Nat) : Fun Try.prog 6 (laws_toSolid.e k).G where
  can := by kernel_rfl
  runs := fun ar rt hG vs w A hA hn hrep => by
    unfold FE.G at hG
    split at hG
    · rename_i p hp
      split at hG
      · rename_i t ht
        cases hG
        obtain ⟨t0, ⟨⟩⟩ := p
        unfold laws_toSolid.e laws_toSolid.f at ht
        simp only at ht
        split at ht
        · rename_i hok
          cases ht
          obtain ⟨hlen, hval⟩ := (laws_toSolid.e k).args.ok ar _ hp
          have h1 : ar.length = 1 := hlen
          have hvs : vs.size = 1 := hn.trans h1
          have e : vs = #[vs[0]] := by
            apply Array.ext_getElem?
            intro i
            match i with
            | 0 => simp [hvs]
            | i + 1 => simp [hvs]
          have hr := hval 0 ar[0] (aTree.enc t) (by simp [h1]) rfl w A vs[0] (hrep 0 _ _ (by simp [hvs]) (by simp [h1]))
          rw [e]
          refine ((tsol.both ⟨hC, trivial⟩ _).1 t (Nat.le_refl _) hok w A _ hA hr).mono fun e w' ⟨v, fp, he, hB, ⟨kv, hv, hown, hnd⟩, hfp⟩ => ⟨v, he, hB, fp, kv, hv, hown, hnd, hfp⟩
        · cases ht
      · cases hG
    · cases hG
end Go.Proofs.Ytalkkenkeilmpaa.G
