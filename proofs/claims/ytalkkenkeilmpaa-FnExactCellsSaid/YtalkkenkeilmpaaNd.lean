/- Two functions' promises, made by hand: a node is made of two solids of one's own; a solid of one's own is marked all through. -/
import Derived.Test.YtalkkenkeilmpaaEv16
namespace Go.Proofs.Ytalkkenkeilmpaa.G
open Go Go.RowKit Go.Proofs Go.Proofs.Ytalkkenkeilmpaa.Ev
set_option linter.unusedVariables false
set_option linter.unusedSimpArgs false

section
variable {P : Program} {ops : Array Oper} {Q : Exit → Act → World → Prop} {o : Oper} {rest : List Oper} {a : Act} {w w' : World} {v : Value} {d : Nat}
theorem step_v (hg : o.guard = none) (hd : o.dst = some d) (hr : (execOp a.eval o).run P w = .ok (.value v) w') (h : wpList P ops Q rest (a.put (some d) v) w') : wpList P ops Q (o :: rest) a w :=
  wpList_plain hg fun K hK => by
    unfold Oper.wp; rw [hr]
    show K (a.put o.dst v) w'
    rw [hd]; exact hK _ _ h
theorem step_s (hg : o.guard = none) (hd : o.dst = none) (hr : (execOp a.eval o).run P w = .ok .skip w') (h : wpList P ops Q rest a w') : wpList P ops Q (o :: rest) a w :=
  wpList_plain hg fun K hK => by
    unfold Oper.wp; rw [hr]
    show K (a.put o.dst undef) w'
    rw [hd]; exact hK _ _ h
theorem run_loadAgg {t tt : TypeId} {n b : Nat} {c : Array Value} (hag : agP P t = some true) (hn : szP P t = some n) (hh : w.heap[b]? = some (.cells c tt (0, 0))) (hs : c.size = n) : (loadVar t ⟨b, 0, none⟩).run P w = .ok (.agg c) w := by
  have hcell : ∀ i, i < n → w.cell? ((⟨b, 0, none⟩ : Addr).add i) = some ((c[i]?).getD undef) := fun i hi => by
    rw [addr_add rfl, Nat.zero_add]
    simp [World.cell?, hh, show i < c.size by omega]
  unfold loadVar
  rw [run_bind_ok (pr_agg hag w)]
  simp only [if_true]
  rw [run_bind_ok (pr_size hn w), run_bind_ok (run_loadCells w ⟨b, 0, none⟩ n _ hcell)]
  have e4 : (List.range n).map (fun i => (c[i]?).getD undef) = c.toList := by
    apply List.ext_getElem?
    intro i
    by_cases hi : i < n
    · simp [hi, show i < c.size by omega]
    · simp [hi, show ¬ i < c.size by omega]
  simp only [e4]
  rfl
theorem run_loadO {t : TypeId} {x : Operand} {b : Nat} (ho : o.op = .load t x) (e : a.eval x = .pointer (some ⟨b, 0, none⟩)) (hv : (loadVar t ⟨b, 0, none⟩).run P w = .ok v w) : (execOp a.eval o).run P w = .ok (.value v) w := by
  simp only [execOp, ho, e, Instr.loadAt, Instr.sureAddr]
  exact run_val (α := Unit) (by rw [run_bind_ok (x := ⟨b, 0, none⟩) (w' := w) rfl]; exact hv)
theorem run_storeO {t : TypeId} {x y : Operand} {b : Nat} (ho : o.op = .store t x y) (e : a.eval x = .pointer (some ⟨b, 0, none⟩)) (e2 : a.eval y = v) (hv : (Instr.storeAt t (.pointer (some ⟨b, 0, none⟩)) v).run P w = .ok () w') : (execOp a.eval o).run P w = .ok .skip w' := by
  simp only [execOp, ho, e, e2]
  rw [run_bind_ok hv]; rfl
end
theorem al_old {w : World} {o : Obj} {b : Nat} {x : Obj} (h : w.heap[b]? = some x) : (w.alloc o).heap[b]? = some x :=
  (Below.heap_alloc w _ b (Array.getElem?_eq_some_iff.1 h).1).trans h

/-! ### marks -/
mutual
def mkT (k : Int) : Tree → Int × Tree
  | .mk _ _ l => ((mkL (W (W (W (W (W (k + 1) + 1) + 1) + 1) + 1)) l).1, .mk (k.tmod 3 == 0) ⟨W (k + 1), W (W (k + 1) + 1), W (W (W (k + 1) + 1) + 1), W (W (W (W (k + 1) + 1) + 1) + 1)⟩ (mkL (W (W (W (W (W (k + 1) + 1) + 1) + 1) + 1)) l).2)
def mkL (k : Int) : List Tree → Int × List Tree
  | [] => (k, [])
  | t :: l => ((mkL (mkT k t).1 l).1, (mkT k t).2 :: (mkL (mkT k t).1 l).2)
end
theorem mkL_len : ∀ (l : List Tree) (k : Int), (mkL k l).2.length = l.length
  | [], k => by simp [mkL]
  | t :: l, k => by simp [mkL, mkL_len l]
theorem mkL_snoc (t : Tree) : ∀ (l : List Tree) (k : Int), mkL k (l ++ [t]) = ((mkT (mkL k l).1 t).1, (mkL k l).2 ++ [(mkT (mkL k l).1 t).2])
  | [], k => by simp [mkL]
  | x :: l, k => by simp [mkL, mkL_snoc t l]
namespace mark
noncomputable def bd : Code := match Try.f23.body with | some c => c | none => .skip
/-- the code's regions. -/
def inn : Code → Code
  | .seq _ (.seq (.seq _ (.block _ (.loop c))) _) => c
  | _ => .skip
def rgs : Code → List Code
  | .seq a b => rgs a ++ rgs b
  | .block _ c => rgs c
  | .loop c => rgs c
  | .cond _ _ _ => []
  | .ret => []
  | c => [c]
noncomputable def rg (i : Nat) : Code := (rgs bd).getD i .skip
theorem shape : bd = (rg 0).seq (((rg 1).seq (.block 0 (.loop (((rg 2).seq (.cond (.tmp 9) .skip (.exit 0))).seq ((Code.block 1 ((rg 3).seq ((rg 4).seq ((rg 5).seq ((rg 6).seq ((rg 7).seq ((rg 8).seq ((rg 9).seq ((rg 10).seq ((rg 11).seq ((rg 12).seq (rg 13)))))))))))).seq (rg 14)))))).seq ((rg 15).seq .ret)) := by kernel_rfl
noncomputable abbrev PP : Program := Try.prog
noncomputable def N : Nat := Try.f23.ntmps
noncomputable def cx0 (ρ : Type) : Cx ρ := mkCx PP [] []
def stR (tt : TypeId) (l : List RT) (k i : Int) : S2 := ([(0, .osl XID), (1, .p (.v (.int .i64 k))), (5, .p (.v (.int .i64 i)))], [(XID, some (.row tt .rt l))])
def kx (e : Exit) (st : S2) : Option (Nat × Int × Int × TypeId × List RT) := match e, get st.1 0, get st.1 1, get st.1 5, getB st.2 XID, st.2.all (fun x => Nat.beq x.1 XID) with
  | .normal, .osl id, .p (.v (.int .i64 k)), .p (.v (.int .i64 i)), some (some (.row t .rt l)), true => some (id, k, i, t, l)
  | _, _, _, _, _, _ => none
def upA (r : RT) (b : Bool) : RT := ⟨b, ⟨r.p.a, r.p.b, r.p.c, r.p.d⟩, r.a, r.n, r.cap⟩
def up1 (r : RT) (x : Int) : RT := ⟨r.inn, ⟨x, r.p.b, r.p.c, r.p.d⟩, r.a, r.n, r.cap⟩
def up2 (r : RT) (x : Int) : RT := ⟨r.inn, ⟨r.p.a, x, r.p.c, r.p.d⟩, r.a, r.n, r.cap⟩
def up3 (r : RT) (x : Int) : RT := ⟨r.inn, ⟨r.p.a, r.p.b, x, r.p.d⟩, r.a, r.n, r.cap⟩
def up4 (r : RT) (x : Int) : RT := ⟨r.inn, ⟨r.p.a, r.p.b, r.p.c, x⟩, r.a, r.n, r.cap⟩
def okS (l l' : List RT) (k i : Int) (tt : TypeId) : Option (Nat × Int × Int × TypeId × List RT) := if 0 ≤ i then (if i < (l.length : Int) then (if i.toNat < l.length then some (XID, k, i, tt, l') else none) else none) else none
theorem e3 (tt : TypeId) (l : List RT) (k i : Int) : evCode (cx0 _) (rg 3) (stR tt l k i) kx = if (3 : Int) = 0 then none else okS l (l.set i.toNat (upA (l.getD i.toNat default) (k.tmod 3 == 0))) k i tt := by kernel_rfl
theorem e4 (tt : TypeId) (l : List RT) (k i : Int) : evCode (cx0 _) (rg 4) (stR tt l k i) kx = some (XID, W (k + 1), i, tt, l) := by kernel_rfl
theorem e5 (tt : TypeId) (l : List RT) (k i : Int) : evCode (cx0 _) (rg 5) (stR tt l k i) kx = okS l (l.set i.toNat (up1 (l.getD i.toNat default) k)) k i tt := by kernel_rfl
theorem e6 (tt : TypeId) (l : List RT) (k i : Int) : evCode (cx0 _) (rg 6) (stR tt l k i) kx = some (XID, W (k + 1), i, tt, l) := by kernel_rfl
theorem e7 (tt : TypeId) (l : List RT) (k i : Int) : evCode (cx0 _) (rg 7) (stR tt l k i) kx = okS l (l.set i.toNat (up2 (l.getD i.toNat default) k)) k i tt := by kernel_rfl
theorem e8 (tt : TypeId) (l : List RT) (k i : Int) : evCode (cx0 _) (rg 8) (stR tt l k i) kx = some (XID, W (k + 1), i, tt, l) := by kernel_rfl
theorem e9 (tt : TypeId) (l : List RT) (k i : Int) : evCode (cx0 _) (rg 9) (stR tt l k i) kx = okS l (l.set i.toNat (up3 (l.getD i.toNat default) k)) k i tt := by kernel_rfl
theorem e10 (tt : TypeId) (l : List RT) (k i : Int) : evCode (cx0 _) (rg 10) (stR tt l k i) kx = some (XID, W (k + 1), i, tt, l) := by kernel_rfl
theorem e11 (tt : TypeId) (l : List RT) (k i : Int) : evCode (cx0 _) (rg 11) (stR tt l k i) kx = okS l (l.set i.toNat (up4 (l.getD i.toNat default) k)) k i tt := by kernel_rfl
theorem e12 (tt : TypeId) (l : List RT) (k i : Int) : evCode (cx0 _) (rg 12) (stR tt l k i) kx = some (XID, W (k + 1), i, tt, l) := by kernel_rfl
theorem e14 (tt : TypeId) (l : List RT) (k i : Int) : evCode (cx0 _) (rg 14) (stR tt l k i) kx = some (XID, k, W (i + 1), tt, l) := by kernel_rfl
theorem kx_to {c : Code} {st : S2} {tt : TypeId} {l : List RT} {k i : Int} (hd : dstOk N c = true) (hL : LoopsOk PP N (cx0 (Nat × Int × Int × TypeId × List RT)) c) (h : evCode (cx0 _) c st kx = some (XID, k, i, tt, l)) : To PP N c st .normal (stR tt l k i) := by
  obtain ⟨e, st', hk, hto⟩ := evCode_ok (P := PP) rfl mixed (callsOk (cs := []) (ls := []) trivial) c st kx hd hL h
  unfold kx at hk
  split at hk
  · rename_i h0 h1 h5 hb hall
    cases hk
    intro w0 a w Q hR hQ
    refine hto w0 a w Q hR fun a' w' hR' => hQ a' w' (hR'.ref (fun s => ?_) fun id => ?_)
    · unfold stR
      simp only [Ev.get]
      cases hs0 : Nat.beq 0 s with
      | true => have := beq_iff.1 hs0; subst this; rw [h0]; exact fun _ _ _ _ h => h
      | false =>
        cases hs1 : Nat.beq 1 s with
        | true => have := beq_iff.1 hs1; subst this; rw [h1]; exact fun _ _ _ _ h => h
        | false =>
          cases hs5 : Nat.beq 5 s with
          | true => have := beq_iff.1 hs5; subst this; rw [h5]; exact fun _ _ _ _ h => h
          | false => exact fun _ _ _ _ _ => trivial
    · unfold stR
      simp only [Ev.getB]
      cases hid : Nat.beq XID id with
      | true => have := beq_iff.1 hid; subst this; rw [hb]; exact ⟨fun _ _ _ _ h => h, rfl, rfl⟩
      | false =>
        have hn : getB st'.2 id = none := by
          cases hg : getB st'.2 id with
          | none => rfl
          | some r =>
            have := List.all_eq_true.1 hall _ (getB_some hg)
            have := beq_iff.1 this
            simp only at this
            rw [beq_iff.2 this.symm] at hid; cases hid
        rw [hn]
        trivial
  · cases hk
/-- the head of a round. -/
noncomputable def hdC : Code := (rg 2).seq (.cond (.tmp 9) .skip (.exit 0))
def kc (e : Exit) (st : S2) : Option (Bool × (Nat × Int × Int × TypeId × List RT)) := match e with
  | .normal => (match kx .normal st with | some r => some (true, r) | none => none)
  | .exit 0 => (match kx .normal st with | some r => some (false, r) | none => none)
  | _ => none
theorem e2 (tt : TypeId) (l : List RT) (k i : Int) : evCode (cx0 _) hdC (stR tt l k i) kc = if decide (i < (l.length : Int)) = true then some (true, XID, k, i, tt, l) else some (false, XID, k, i, tt, l) := by kernel_rfl
theorem kc_to {c : Code} {st : S2} {tt : TypeId} {l : List RT} {k i : Int} {t : Bool} (hd : dstOk N c = true) (hL : LoopsOk PP N (cx0 (Bool × (Nat × Int × Int × TypeId × List RT))) c) (h : evCode (cx0 _) c st kc = some (t, XID, k, i, tt, l)) : To PP N c st (if t = true then .normal else .exit 0) (stR tt l k i) := by
  obtain ⟨e, st', hk, hto⟩ := evCode_ok (P := PP) rfl mixed (callsOk (cs := []) (ls := []) trivial) c st kc hd hL h
  have fin : kx .normal st' = some (XID, k, i, tt, l) → ∀ (w0 : Base) (a : Act) (w : World), R w0 N (get st'.1) (getB st'.2) a w → R w0 N (get (stR tt l k i).1) (getB (stR tt l k i).2) a w := fun hk w0 a w hR => by
    unfold kx at hk
    split at hk
    · rename_i h0 h1 h5 hb hall
      cases hk
      refine hR.ref (fun s => ?_) fun id => ?_
      · unfold stR
        simp only [Ev.get]
        cases hs0 : Nat.beq 0 s with
        | true => have := beq_iff.1 hs0; subst this; rw [h0]; exact fun _ _ _ _ h => h
        | false =>
          cases hs1 : Nat.beq 1 s with
          | true => have := beq_iff.1 hs1; subst this; rw [h1]; exact fun _ _ _ _ h => h
          | false =>
            cases hs5 : Nat.beq 5 s with
            | true => have := beq_iff.1 hs5; subst this; rw [h5]; exact fun _ _ _ _ h => h
            | false => exact fun _ _ _ _ _ => trivial
      · unfold stR
        simp only [Ev.getB]
        cases hid : Nat.beq XID id with
        | true => have := beq_iff.1 hid; subst this; rw [hb]; exact ⟨fun _ _ _ _ h => h, rfl, rfl⟩
        | false =>
          have hn : getB st'.2 id = none := by
            cases hg : getB st'.2 id with
            | none => rfl
            | some r =>
              have := List.all_eq_true.1 hall _ (getB_some hg)
              have := beq_iff.1 this
              simp only at this
              rw [beq_iff.2 this.symm] at hid; cases hid
          rw [hn]
          trivial
    · cases hk
  unfold kc at hk
  split at hk
  · split at hk
    · rename_i r hr
      cases hk
      rw [if_pos rfl]
      exact fun w0 a w Q hR hQ => hto w0 a w Q hR fun a' w' hR' => hQ a' w' (fin hr w0 a' w' hR')
    · cases hk
  · split at hk
    · rename_i r hr
      cases hk
      rw [if_neg (by decide)]
      exact fun w0 a w Q hR hQ => hto w0 a w Q hR fun a' w' hR' => hQ a' w' (fin hr w0 a' w' hR')
    · cases hk
  · cases hk
structure Fa (b : Nat) (kv : Value) (n cap : Nat) (tt : TypeId) (l : List RT) (k i : Int) (a : Act) (w : World) : Prop where
  size : a.tmps.size = N
  defers : a.defers = []
  t0 : a.tmps.getD 0 undef = kv
  t1 : a.tmps.getD 1 undef = .int .i64 k
  t5 : a.tmps.getD 5 undef = .int .i64 i
  len : l.length = n
  cur : ∃ cur : Array Value, w.heap[b]? = some (.cells cur tt (0, 0)) ∧ cap * 6 ≤ cur.size ∧ ∀ j c, j < n → c < 6 → ∃ x, cur[j * 6 + c]? = some x ∧ El.cell .rt (l.getD j default) c = .v x
theorem n_le : N ≤ XID := Nat.le_of_ble_eq_true (by kernel_rfl)
theorem rt_v (r : RT) (c : Nat) : ∃ x, El.cell .rt r c = .v x := by
  match c with
  | 0 => exact ⟨_, rfl⟩
  | 1 => exact ⟨_, rfl⟩
  | 2 => exact ⟨_, rfl⟩
  | 3 => exact ⟨_, rfl⟩
  | 4 => exact ⟨_, rfl⟩
  | c + 5 => exact ⟨_, rfl⟩
section
variable {b n cap : Nat} {kv : Value} {tt : TypeId} {l : List RT} {k i : Int} {a : Act} {w : World}
theorem mkR (hkv : kv = .slice (some ⟨b, 0, none⟩) n cap) (hn : n ≤ cap) (hc : cap ≤ maxLen) (h : Fa b kv n cap tt l k i a w) : R ⟨w, fun x => x = b, fun _ => False, some { v := kv, own := some b, t := tt, z := 6, n := n }⟩ N (get (stR tt l k i).1) (getB (stR tt l k i).2) a w := by
  obtain ⟨cur, h1, h2, h3⟩ := h.cur
  have hb : b < w.heap.size := (Array.getElem?_eq_some_iff.1 h1).1
  have hgb : ∀ id x, getB (stR tt l k i).2 id = some (some x) → id = XID ∧ x = .row tt .rt l := fun id x hx => by
    unfold stR at hx
    simp only [Ev.getB] at hx
    cases hid : Nat.beq XID id with
    | true => rw [hid] at hx; cases hx; exact ⟨(beq_iff.1 hid).symm, rfl⟩
    | false => rw [hid] at hx; cases hx
  refine ⟨fun _ => False, fun id => if id = XID then some { v := kv, own := some b, t := tt, z := 6, n := n } else none, ⟨⟨rfl, rfl, rfl, Nat.le_refl _, fun _ _ _ => rfl, Nat.le_refl _⟩, fun s => ?_, fun id x hx => ?_, fun id id' x x' bb k1 k2 hx hx' _ _ _ _ => (hgb id x hx).1.trans (hgb id' x' hx').1.symm, fun id hid => ?_, fun b hb => hb.elim, fun b hb => hb.elim, fun id k' b' q hk hb' => ?_, h.defers, h.size, fun k' hk' => ⟨n_le, fun _ _ => by cases hk'; exact if_pos rfl⟩, fun id kid xs hx => by cases (hgb id _ hx).2⟩⟩
  · unfold stR
    simp only [Ev.get]
    cases hs0 : Nat.beq 0 s with
    | true => have := beq_iff.1 hs0; subst this; exact ⟨_, if_pos rfl, h.t0⟩
    | false =>
      cases hs1 : Nat.beq 1 s with
      | true => have := beq_iff.1 hs1; subst this; show Rep _ _ _ _; rw [h.t1]; exact .v _
      | false =>
        cases hs5 : Nat.beq 5 s with
        | true => have := beq_iff.1 hs5; subst this; show Rep _ _ _ _; rw [h.t5]; exact .v _
        | false => trivial
  · obtain ⟨rfl, rfl⟩ := hgb id x hx
    refine ⟨_, if_pos rfl, ⟨rfl, rfl, h.len.symm, by rw [hkv]; rfl, cur.toList.take (n * 6), ⟨?_, .inr ⟨b, cap, cur, hkv, Nat.zero_le _, h1, hn, hc, h2, rfl⟩⟩, fun j c hj hc' => ?_⟩, fun b' hb' => ⟨.inr ?_, fun h => h⟩⟩
    · rw [List.length_take, Array.length_toList]
      show min (n * 6) cur.size = n * 6
      have : n * 6 ≤ cap * 6 := Nat.mul_le_mul_right 6 hn
      omega
    · obtain ⟨x, hx1, hx2⟩ := h3 j c (by rw [← h.len]; exact hj) hc'
      have hc6 : c < 6 := hc'
      have hj' : j < n := by rw [← h.len]; exact hj
      refine ⟨x, ?_, by rw [hx2]; exact .v x⟩
      show (cur.toList.take (n * 6))[j * 6 + c]? = some x
      rw [List.getElem?_take, if_pos (by omega), Array.getElem?_toList]; exact hx1
    · have := owns_own (k := { v := kv, own := some b, t := tt, z := 6, n := n }) rfl hb'
      cases this; rfl
  · unfold stR at hid
    simp only [Ev.getB] at hid
    cases hq : Nat.beq XID id with
    | true => rw [hq] at hid; cases hid
    | false => exact if_neg fun e => by rw [e, beq_iff.2 rfl] at hq; cases hq
  · split at hk
    · cases hk
      have := owns_own (k := { v := kv, own := some b, t := tt, z := 6, n := n }) rfl hb'
      cases this; exact hb
    · cases hk
theorem exR {w0 : World} {a' : Act} {w' : World} {l' : List RT} {k' i' : Int} (hkv : kv = .slice (some ⟨b, 0, none⟩) n cap) (hR : R ⟨w0, fun x => x = b, fun _ => False, some { v := kv, own := some b, t := tt, z := 6, n := n }⟩ N (get (stR tt l' k' i').1) (getB (stR tt l' k' i').2) a' w') : Fa b kv n cap tt l' k' i' a' w' ∧ BelowX ⟨w0, fun x => x = b, fun _ => False, none⟩ w' := by
  obtain ⟨ro, β, h⟩ := hR
  have hg : getB (stR tt l' k' i').2 XID = some (some (.row tt .rt l')) := rfl
  have hβ := (h.fix _ rfl).2 _ hg
  obtain ⟨k1, hk1, ⟨q1, q2, q3, q4, xs, q5, q6⟩, _⟩ := h.box XID _ hg
  rw [hβ] at hk1; cases hk1
  have s0 := h.slots 0
  obtain ⟨k2, hk2, e0⟩ : RepS w' ro β (a'.tmps.getD 0 undef) (.osl XID) := s0
  rw [hβ] at hk2; cases hk2
  have s1 : Rep w' ro (a'.tmps.getD 1 undef) (.v (.int .i64 k')) := h.slots 1
  have s5 : Rep w' ro (a'.tmps.getD 5 undef) (.v (.int .i64 i')) := h.slots 5
  refine ⟨⟨h.size, h.defers, e0, rep_v_inv s1, rep_v_inv s5, q3.symm, ?_⟩, ⟨h.below.os, h.below.tape, h.below.output, h.below.size, h.below.block, h.below.drawn⟩⟩
  obtain ⟨qa, qb | ⟨g, cap', cur, qv, _, qh, _, _, qs, qt⟩⟩ := q5
  · have := hkv.symm.trans qb.1; cases this
  · have := hkv.symm.trans qv
    cases this
    refine ⟨cur, qh, qs, fun j c hj hc => ?_⟩
    obtain ⟨x, hx⟩ := rt_v (l'.getD j default) c
    refine ⟨x, ?_, hx⟩
    obtain ⟨y, hy, hr⟩ := q6 j c (by rw [← q3]; exact hj) hc
    have hr : Rep w' ro y (El.cell .rt (l'.getD j default) c) := hr
    rw [hx] at hr
    have := rep_v_inv hr
    subst this
    have hy : xs[j * 6 + c]? = some y := hy
    have qt : cur.toList.take (n * 6) = xs := qt
    rw [← qt, List.getElem?_take, if_pos (by omega), Array.getElem?_toList] at hy
    exact hy
end
theorem toReg {i : Nat} {st st' : S2} (hto : To PP N (rg i) st .normal st') {X : Code} {Q : Exit → Act → World → Prop} {w0 : Base} {a : Act} {w : World} (hR : R w0 N (get st.1) (getB st.2) a w) (h : ∀ a' w', R w0 N (get st'.1) (getB st'.2) a' w' → X.wp PP Q a' w') : ((rg i).seq X).wp PP Q a w :=
  wp_seq (hto w0 a w _ hR fun a' w' hR' => h a' w' hR')
/-- the operations ahead of the call. -/
noncomputable def ops14 : Array Oper := match rg 13 with | .region _ ops _ => ops | _ => #[]
theorem rg13 : rg 13 = .region 14 ops14 false := by kernel_rfl
noncomputable def o14 (i : Nat) : Oper := ops14.getD i dOper
theorem l14 : ops14.toList = [o14 0, o14 1, o14 2, o14 3, o14 4, o14 5] ++ [o14 6, o14 7] := by kernel_rfl
theorem evOps_pre {ρ : Type} {cx : Cx ρ} {r : ρ} {P : Program} {N : Nat} {ops : Array Oper} (hP : cx.P = P) (hC : CallsOk P cx) (l2 : List Oper) : ∀ (l : List Oper) (st : S2) (K : S2 → Option ρ), (∀ o ∈ l, ∀ d, o.dst = some d → d < N) → evOps cx ops l st K = some r →
    ∃ st', K st' = some r ∧ ∀ (w0 : Base) (a : Act) (w : World) (Q : Exit → Act → World → Prop), R w0 N (get st.1) (getB st.2) a w → (∀ a' w', R w0 N (get st'.1) (getB st'.2) a' w' → wpList P ops Q l2 a' w') → wpList P ops Q (l ++ l2) a w
  | [], st, K, hd, h => ⟨st, h, fun w0 a w Q hR hQ => hQ a w hR⟩
  | o :: l, st, K, hd, h => by
    simp only [evOps] at h
    obtain ⟨want, st1, h, e1, e2, hg⟩ := evGuard_ok h
    cases want with
    | true =>
      simp only at h
      obtain ⟨u, h, hu⟩ := evOp_ok hP hC (hd o List.mem_cons_self) h
      have hu := hu _ _ (Sub.refl _ _ o)
      obtain ⟨st', h', hh⟩ := evOps_pre hP hC l2 l _ K (fun o ho => hd o (List.mem_cons_of_mem _ ho)) h
      refine ⟨st', h', fun w0 a w Q hR hQ => ?_⟩
      have hw := wanted_of (st := st) hR hg (fun _ _ _ _ _ => rfl)
      rw [List.cons_append]
      unfold wpList
      rw [if_pos hw]
      refine .inl (hu w0 a w _ Q (by rw [e1, e2]; exact hR) fun a' w' hR' => hh w0 a' w' Q ?_ hQ)
      rw [get_put, getB_put]; exact hR'
    | false =>
      simp only at h
      obtain ⟨st', h', hh⟩ := evOps_pre hP hC l2 l _ K (fun o ho => hd o (List.mem_cons_of_mem _ ho)) h
      refine ⟨st', h', fun w0 a w Q hR hQ => ?_⟩
      have hw := wanted_of (st := st) hR hg (fun _ _ _ _ _ => rfl)
      rw [List.cons_append]
      unfold wpList
      rw [hw, if_neg (by simp)]
      refine hh w0 _ w Q ?_ hQ
      rw [get_put, getB_put, e1, e2]
      exact hR.skip (hd o List.mem_cons_self)
def kp (st : S2) : Option ((Nat × Int × Int × TypeId × List RT) × Value × Value) := match kx .normal st, get st.1 57, get st.1 58 with
  | some r, .p (.v x), .p (.v y) => some (r, x, y)
  | _, _, _ => none
theorem ep (tt : TypeId) (l : List RT) (k i : Int) : evOps (cx0 _) ops14 [o14 0, o14 1, o14 2, o14 3, o14 4, o14 5] (stR tt l k i) kp = if 0 ≤ i then (if i < (l.length : Int) then (if i.toNat < l.length then some ((XID, k, i, tt, l), .slice (l.getD i.toNat default).a (l.getD i.toNat default).n (l.getD i.toNat default).cap, .int .i64 k) else none) else none) else none := by kernel_rfl
theorem d14 : ∀ o ∈ [o14 0, o14 1, o14 2, o14 3, o14 4, o14 5], ∀ d, o.dst = some d → d < N := ops_dst (by kernel_rfl)
/-- what a call may change. -/
structure Mk (w0 w : World) (fp : List Nat) : Prop where
  os : w.os = w0.os
  tape : w.tape = w0.tape
  output : w.output = w0.output
  size : w0.heap.size ≤ w.heap.size
  same : ∀ b, b < w0.heap.size → b ∉ fp → w.heap[b]? = w0.heap[b]?
  drawn : w0.drawn ≤ w.drawn
theorem Mk.refl (w : World) (fp : List Nat) : Mk w w fp := ⟨rfl, rfl, rfl, Nat.le_refl _, fun _ _ _ => rfl, Nat.le_refl _⟩
theorem Mk.trans {w0 w w' : World} {fp : List Nat} (h : Mk w0 w fp) (h2 : Mk w w' fp) : Mk w0 w' fp :=
  ⟨h2.os.trans h.os, h2.tape.trans h.tape, h2.output.trans h.output, Nat.le_trans h.size h2.size, fun b hb hf => (h2.same b (Nat.lt_of_lt_of_le hb h.size) hf).trans (h.same b hb hf), Nat.le_trans h.drawn h2.drawn⟩
theorem Mk.sub {w0 w : World} {fp fp' : List Nat} (h : Mk w0 w fp) (hs : ∀ b ∈ fp, b ∈ fp') : Mk w0 w fp' := ⟨h.os, h.tape, h.output, h.size, fun b hb hf => h.same b hb fun e => hf (hs b e), h.drawn⟩
def toRT (t : Tree) : Value → RT
  | .slice a n c => ⟨t.inn, t.p, a, n, c⟩
  | _ => ⟨t.inn, t.p, none, 0, 0⟩
theorem OwnK.sl {w : World} {fp : List Nat} {v : Value} {l : List Tree} (h : OwnK w fp v l) : ∃ a c, v = .slice a l.length c := by
  cases h with
  | nil A cap h => exact ⟨A, cap, rfl⟩
  | cons b cap l fps kv cur tt => exact ⟨_, cap, rfl⟩
theorem loops_triv {ρ : Type} (i : Nat) (h : loopsOf (rg i) = []) (cx : Cx ρ) : LoopsOk PP N cx (rg i) → LoopsOk PP N cx (rg i) := id
theorem lo {ρ : Type} {cx : Cx ρ} {i : Nat} (h : (match rg i with | .region _ _ _ => true | _ => false) = true) : LoopsOk PP N cx (rg i) := by
  cases hr : rg i with
  | region => trivial
  | _ => rw [hr] at h; cases h
theorem getD_set {l : List RT} {i : Nat} (hi : i < l.length) (x : RT) : (l.set i x).getD i default = x := by simp [List.getD_eq_getElem?_getD, hi]
theorem wpos {i : Nat} (h : i < 9223372036854775807) : W ((i : Int) + 1) = ((i + 1 : Nat) : Int) := by
  show IntKind.i64.wrap ((i : Int) + 1) = _
  rw [IntKind.wrap_i64]; omega
theorem okS_pos {l l' : List RT} {k : Int} {i : Nat} {tt : TypeId} (hi : i < l.length) : okS l l' k (i : Int) tt = some (XID, k, (i : Int), tt, l') := by
  unfold okS
  rw [if_pos (Int.natCast_nonneg _), if_pos (by omega), if_pos (by simpa using hi)]
def rtm (r : RT) (k : Int) : RT := ⟨k.tmod 3 == 0, ⟨W (k + 1), W (W (k + 1) + 1), W (W (W (k + 1) + 1) + 1), W (W (W (W (k + 1) + 1) + 1) + 1)⟩, r.a, r.n, r.cap⟩
theorem body_to {tt : TypeId} {l : List RT} {k : Int} {i : Nat} (hi : i < l.length) {X : Code} {Q : Exit → Act → World → Prop} {w0 : Base} {a : Act} {w : World} (hR : R w0 N (get (stR tt l k i).1) (getB (stR tt l k i).2) a w)
    (h : ∀ a' w', R w0 N (get (stR tt (l.set i (rtm (l.getD i default) k)) (W (W (W (W (W (k + 1) + 1) + 1) + 1) + 1)) i).1) (getB (stR tt (l.set i (rtm (l.getD i default) k)) (W (W (W (W (W (k + 1) + 1) + 1) + 1) + 1)) i).2) a' w' → X.wp PP Q a' w') :
    ((rg 3).seq ((rg 4).seq ((rg 5).seq ((rg 6).seq ((rg 7).seq ((rg 8).seq ((rg 9).seq ((rg 10).seq ((rg 11).seq ((rg 12).seq X)))))))))).wp PP Q a w := by
  have ls : ∀ x : RT, i < (l.set i x).length := fun x => by simpa using hi
  refine toReg (kx_to (by kernel_rfl) (lo (by kernel_rfl)) (by rw [e3, if_neg (by decide)]; exact okS_pos hi)) hR fun a w hR => ?_
  refine toReg (kx_to (by kernel_rfl) (lo (by kernel_rfl)) (e4 _ _ _ _)) hR fun a w hR => ?_
  refine toReg (kx_to (by kernel_rfl) (lo (by kernel_rfl)) ((e5 _ _ _ _).trans (okS_pos (ls _)))) hR fun a w hR => ?_
  refine toReg (kx_to (by kernel_rfl) (lo (by kernel_rfl)) (e6 _ _ _ _)) hR fun a w hR => ?_
  refine toReg (kx_to (by kernel_rfl) (lo (by kernel_rfl)) ((e7 _ _ _ _).trans (okS_pos (by simpa using hi)))) hR fun a w hR => ?_
  refine toReg (kx_to (by kernel_rfl) (lo (by kernel_rfl)) (e8 _ _ _ _)) hR fun a w hR => ?_
  refine toReg (kx_to (by kernel_rfl) (lo (by kernel_rfl)) ((e9 _ _ _ _).trans (okS_pos (by simpa using hi)))) hR fun a w hR => ?_
  refine toReg (kx_to (by kernel_rfl) (lo (by kernel_rfl)) (e10 _ _ _ _)) hR fun a w hR => ?_
  refine toReg (kx_to (by kernel_rfl) (lo (by kernel_rfl)) ((e11 _ _ _ _).trans (okS_pos (by simpa using hi)))) hR fun a w hR => ?_
  refine toReg (kx_to (by kernel_rfl) (lo (by kernel_rfl)) (e12 _ _ _ _)) hR fun a w hR => ?_
  refine h a w ?_
  have e : ∀ x : RT, (l.set i x).getD i default = x := fun x => getD_set hi x
  simp only [Int.toNat_natCast, List.set_set, e] at hR
  exact hR
/-- the code's end. -/
noncomputable def ops15 : Array Oper := match rg 15 with | .region _ ops _ => ops | _ => #[]
theorem rg15 : rg 15 = .region 15 ops15 false := by kernel_rfl
noncomputable def o15 (i : Nat) : Oper := ops15.getD i dOper
theorem l15 : ops15.toList = [o15 0, o15 1] := by kernel_rfl
theorem N61 : 61 ≤ N := Nat.le_of_ble_eq_true (by kernel_rfl)
theorem put_getD {a : Act} {d i : Nat} {v : Value} (h : d < a.tmps.size) : (a.put (some d) v).tmps.getD i undef = if d = i then v else a.tmps.getD i undef := by
  simp only [Act.put, Array.getD_eq_getD_getElem?, Array.getElem?_setIfInBounds]
  by_cases e : d = i
  · rw [if_pos e, if_pos e, if_pos h]; rfl
  · rw [if_neg e, if_neg e]
theorem put_size {a : Act} {d : Nat} {v : Value} : (a.put (some d) v).tmps.size = a.tmps.size := by simp [Act.put]
theorem tail {RR : Ending → World → Prop} {a : Act} {w : World} {kf : Int} (hs : a.tmps.size = N) (hd : a.defers = []) (h1 : a.tmps.getD 1 undef = .int .i64 kf) (h : RR (.returned (.int .i64 kf)) w) : ((rg 15).seq .ret).wp PP (bodyPost PP Try.f23 RR) a w := by
  rw [rg15]
  refine wp_seq (wp_region_list ?_)
  rw [l15]
  have n60 : 60 < a.tmps.size := by have := N61; omega
  have n4 : 4 < (a.put (some 60) (.int .i64 kf)).tmps.size := by rw [put_size]; omega
  refine step_v (d := 60) (v := .int .i64 kf) (w' := w) (by kernel_rfl) (by kernel_rfl) ?_ ?_
  · have e : (o15 0).op = .move (.tmp 1) := by kernel_rfl
    simp only [execOp, e]
    show Sem.run PP (pure (Next.value (a.tmps.getD 1 undef))) w = _
    rw [h1]; rfl
  refine step_v (d := 4) (v := .int .i64 kf) (w' := w) (by kernel_rfl) (by kernel_rfl) ?_ ?_
  · have e : (o15 1).op = .assign (.tmp 60) := by kernel_rfl
    simp only [execOp, e]
    show Sem.run PP (pure (Next.value ((a.put (some 60) (.int .i64 kf)).tmps.getD 60 undef))) w = _
    rw [put_getD n60, if_pos rfl]; rfl
  refine wpList_nil (wp_ret ⟨hd, .int .i64 kf, ?_, h⟩)
  have hr : Try.f23.results.toList = [.tmp 4] := by kernel_rfl
  have := run_results (P := PP) (fn := Try.f23) (tmps := ((a.put (some 60) (.int .i64 kf)).put (some 4) (.int .i64 kf)).tmps) (w := w) (vs := [.int .i64 kf]) (by rw [hr]; rfl) (fun i r' v' e1 e2 => by
    rw [hr] at e1
    cases i with
    | zero =>
      simp at e1 e2; subst e1 e2
      show Sem.run PP (pure (((a.put (some 60) (.int .i64 kf)).put (some 4) (.int .i64 kf)).tmps.getD 4 undef)) w = _
      rw [put_getD n4, if_pos rfl]; rfl
    | succ i => simp at e1)
  simpa using this
/-- a row without solids. -/
def stE (k : Int) : S2 := ([(0, .p (.sl .rt [])), (1, .p (.v (.int .i64 k))), (5, .p (.v (.int .i64 0)))], [])
def kE (e : Exit) (st : S2) : Option Int := match e, get st.1 1 with
  | .exit 0, .p (.v (.int .i64 k)) => some k
  | _, _ => none
theorem eE (k : Int) : evCode (cx0 _) hdC (stE k) kE = some k := by kernel_rfl
theorem hd_dst : dstOk N hdC = true := by kernel_rfl
theorem hd_loops {ρ : Type} {cx : Cx ρ} : LoopsOk PP N cx hdC := ⟨lo (by kernel_rfl), trivial, trivial⟩
structure MInv (w0 : World) (fp : List Nat) (kv : Value) (k0 : Int) (l0 : List Tree) (i : Nat) (a : Act) (w : World) : Prop where
  le : i ≤ l0.length
  size : a.tmps.size = N
  defers : a.defers = []
  t0 : a.tmps.getD 0 undef = kv
  t1 : a.tmps.getD 1 undef = .int .i64 (mkL k0 (l0.take i)).1
  t5 : a.tmps.getD 5 undef = .int .i64 i
  own : OwnK w fp kv ((mkL k0 (l0.take i)).2 ++ l0.drop i)
  chg : Mk w0 w fp
theorem toRT_cell {t : Tree} {kv : Value} {x : Option Addr} {n c : Nat} (h : kv = .slice x n c) (j : Nat) (v : Value) : (∀ c', c' < 5 → El.cell .tree t c' = .v v → j = c' → El.cell .rt (toRT t kv) j = .v v) := fun c' hc hv hj => by
  subst h hj
  match j, hc with
  | 0, _ => exact hv
  | 1, _ => exact hv
  | 2, _ => exact hv
  | 3, _ => exact hv
  | 4, _ => exact hv
theorem tree_v (t : Tree) (c : Nat) (hc : c < 5) : ∃ v, El.cell .tree t c = .v v := by
  match c, hc with
  | 0, _ => exact ⟨_, rfl⟩
  | 1, _ => exact ⟨_, rfl⟩
  | 2, _ => exact ⟨_, rfl⟩
  | 3, _ => exact ⟨_, rfl⟩
  | 4, _ => exact ⟨_, rfl⟩
theorem nodup_fps {n : Nat} {fps : Nat → List Nat} (h : ((List.range n).flatMap fps).Nodup) {i j x : Nat} (hi : i < n) (hj : j < n) (hxi : x ∈ fps i) (hxj : x ∈ fps j) : i = j := by
  induction n with
  | zero => omega
  | succ n ih =>
    rw [List.range_succ, List.flatMap_append, List.nodup_append] at h
    obtain ⟨h1, _, h3⟩ := h
    have lastq : ∀ y, y ∈ fps n → y ∈ [n].flatMap fps := fun y hy => by simpa using hy
    by_cases ci : i = n
    · by_cases cj : j = n
      · omega
      · subst ci
        exact absurd rfl (h3 x (mem_fps (show j < i by omega) hxj) x (lastq x hxi))
    · by_cases cj : j = n
      · subst cj
        exact absurd rfl (h3 x (mem_fps (show i < j by omega) hxi) x (lastq x hxj))
      · exact ih h1 (by omega) (by omega)
theorem nodup_fp {n : Nat} {fps : Nat → List Nat} (h : ((List.range n).flatMap fps).Nodup) {i : Nat} (hi : i < n) : (fps i).Nodup := by
  induction n with
  | zero => omega
  | succ n ih =>
    rw [List.range_succ, List.flatMap_append, List.nodup_append] at h
    by_cases ci : i = n
    · subst ci; simpa using h.2.1
    · exact ih h.1 (by omega)
theorem next {k0 : Int} {l0 : List Tree} {i : Nat} (hi : i < l0.length) : ((mkL k0 (l0.take i)).2 ++ l0.drop i).set i (mkT (mkL k0 (l0.take i)).1 (l0.getD i default)).2 = (mkL k0 (l0.take (i + 1))).2 ++ l0.drop (i + 1) ∧ (mkL k0 (l0.take (i + 1))).1 = (mkT (mkL k0 (l0.take i)).1 (l0.getD i default)).1 ∧ ((mkL k0 (l0.take i)).2 ++ l0.drop i).getD i default = l0.getD i default := by
  have hg : l0.getD i default = l0[i] := by simp [List.getD_eq_getElem?_getD, hi]
  have hl : (mkL k0 (l0.take i)).2.length = i := by rw [mkL_len, List.length_take]; omega
  rw [List.take_succ_eq_append_getElem hi, mkL_snoc, hg]
  refine ⟨?_, rfl, ?_⟩
  · rw [List.set_append, if_neg (by omega), hl, Nat.sub_self, List.drop_eq_getElem_cons hi, List.set_cons_zero, List.append_assoc]; rfl
  · rw [List.getD_eq_getElem?_getD, List.getElem?_append_right (by omega), hl, Nat.sub_self, List.drop_eq_getElem_cons hi]; rfl
theorem _root_.Go.Proofs.Ytalkkenkeilmpaa.Ev.OwnK.congr {w : World} {fp : List Nat} {v : Value} {l l' : List Tree} (h : OwnK w fp v l) (e : l = l') : OwnK w fp v l' := e ▸ h
theorem own_Fa {b cap : Nat} {L : List Tree} {fps : Nat → List Nat} {kvs : Nat → Value} {tt : TypeId} {l : List RT} {k i : Int} {a : Act} {w : World} {kv : Value} (hn : L ≠ []) (hcap : L.length ≤ cap) (hmax : cap ≤ maxLen) (hF : Fa b kv L.length cap tt l k i a w)
    (hl : ∀ j, j < L.length → l.getD j default = toRT (L.getD j default) (kvs j)) (slk : ∀ j, j < L.length → ∃ x n c, kvs j = .slice x n c) (hsub : ∀ j, j < L.length → OwnK w (fps j) (kvs j) (L.getD j default).kids) : OwnK w (b :: (List.range L.length).flatMap fps) (.slice (some ⟨b, 0, none⟩) L.length cap) L := by
  obtain ⟨cur, h1, h2, h3⟩ := hF.cur
  refine .cons b cap L fps kvs cur tt hn hcap hmax h2 h1 (fun j c v hj hc hv => ?_) (fun j hj => ?_) hsub
  · obtain ⟨x, q1, q2⟩ := h3 j c hj (by omega)
    obtain ⟨y, n, q, e⟩ := slk j hj
    rw [hl j hj, toRT_cell e c v c hc hv rfl] at q2
    cases q2; exact q1
  · obtain ⟨x, q1, q2⟩ := h3 j 5 hj (by omega)
    obtain ⟨y, n, q, e⟩ := slk j hj
    rw [hl j hj, e] at q2
    cases q2; rw [e]; exact q1
theorem kx_R {st' : S2} {tt : TypeId} {l : List RT} {k i : Int} (hk : kx .normal st' = some (XID, k, i, tt, l)) {w0 : Base} {a : Act} {w : World} (hR : R w0 N (get st'.1) (getB st'.2) a w) : R w0 N (get (stR tt l k i).1) (getB (stR tt l k i).2) a w := by
  unfold kx at hk
  split at hk
  · rename_i h0 h1 h5 hb hall
    cases hk
    refine hR.ref (fun s => ?_) fun id => ?_
    · unfold stR
      simp only [Ev.get]
      cases hs0 : Nat.beq 0 s with
      | true => have := beq_iff.1 hs0; subst this; rw [h0]; exact fun _ _ _ _ h => h
      | false =>
        cases hs1 : Nat.beq 1 s with
        | true => have := beq_iff.1 hs1; subst this; rw [h1]; exact fun _ _ _ _ h => h
        | false =>
          cases hs5 : Nat.beq 5 s with
          | true => have := beq_iff.1 hs5; subst this; rw [h5]; exact fun _ _ _ _ h => h
          | false => exact fun _ _ _ _ _ => trivial
    · unfold stR
      simp only [Ev.getB]
      cases hid : Nat.beq XID id with
      | true => have := beq_iff.1 hid; subst this; rw [hb]; exact ⟨fun _ _ _ _ h => h, rfl, rfl⟩
      | false =>
        have hn : getB st'.2 id = none := by
          cases hg : getB st'.2 id with
          | none => rfl
          | some r =>
            have := List.all_eq_true.1 hall _ (getB_some hg)
            have := beq_iff.1 this
            simp only at this
            rw [beq_iff.2 this.symm] at hid; cases hid
        rw [hn]
        trivial
  · cases hk
theorem run_assign {a : Act} {w : World} {v : Value} (h : a.tmps.getD 59 undef = v) : (execOp a.eval (o14 7)).run PP w = .ok (.value v) w := by
  have e : (o14 7).op = .assign (.tmp 59) := by kernel_rfl
  simp only [execOp, e]
  show Sem.run PP (pure (Next.value (a.tmps.getD 59 undef))) w = _
  rw [h]; rfl
theorem run_call {a : Act} {w : World} {v1 v2 : Value} (h1 : a.tmps.getD 57 undef = v1) (h2 : a.tmps.getD 58 undef = v2) : (execOp a.eval (o14 6)).run PP w = .ok (.enter 23 #[v1, v2]) w := by
  obtain ⟨c, e, e1, e2⟩ : ∃ c, (o14 6).op = .call c ∧ c.callee = .value (.func 23) ∧ c.args = #[.tmp 57, .tmp 58] := ⟨match (o14 6).op with | .call c => c | _ => default, by kernel_rfl, by kernel_rfl, by kernel_rfl⟩
  have hm : Array.map a.eval #[.tmp 57, .tmp 58] = #[v1, v2] := by
    have g1 : a.eval (.tmp 57) = v1 := h1
    have g2 : a.eval (.tmp 58) = v2 := h2
    simp [g1, g2]
  simp only [execOp, e, resolve, e1, e2, hm, Act.eval, Deferred.ofValue, Sem.run_bind, Sem.run_pure, Result.andThen_ok, invoke, Array.empty_append, Array.append_empty, List.append_nil]
  exact run_callFunc (P := PP) (f := 23) (by kernel_rfl) #[v1, v2] w
theorem round (m : Nat) (ih : ∀ (l0 : List Tree), SizeOf.sizeOf l0 ≤ m → ∀ (w : World) (fp : List Nat) (kv : Value) (k0 : Int), OwnK w fp kv l0 → fp.Nodup → (∀ b ∈ fp, b < w.heap.size) →
      Calls PP 23 #[kv, .int .i64 k0] w fun e w' => e = .returned (.int .i64 (mkL k0 l0).1) ∧ Mk w w' fp ∧ OwnK w' fp kv (mkL k0 l0).2)
    {l0 : List Tree} (hm : SizeOf.sizeOf l0 ≤ m + 1) (hne : l0 ≠ []) {w0 : World} {fp : List Nat} {kv : Value} {k0 : Int} (hnd : fp.Nodup) (hlt : ∀ b ∈ fp, b < w0.heap.size) {i : Nat} {a : Act} {w : World} (hI : MInv w0 fp kv k0 l0 i a w) {Q : Exit → Act → World → Prop}
    (hn : ∀ a' w', i < l0.length → MInv w0 fp kv k0 l0 (i + 1) a' w' → Q .normal a' w') (hx : ∀ a' w', MInv w0 fp kv k0 l0 l0.length a' w' → Q (.exit 0) a' w') :
    (hdC.seq ((Code.block 1 ((rg 3).seq ((rg 4).seq ((rg 5).seq ((rg 6).seq ((rg 7).seq ((rg 8).seq ((rg 9).seq ((rg 10).seq ((rg 11).seq ((rg 12).seq (rg 13)))))))))))).seq (rg 14))).wp PP Q a w := by
  have hown := hI.own
  have hlen : ((mkL k0 (l0.take i)).2 ++ l0.drop i).length = l0.length := by
    rw [List.length_append, mkL_len, List.length_take, List.length_drop]; have := hI.le; omega
  generalize hL : (mkL k0 (l0.take i)).2 ++ l0.drop i = L at hown hlen
  have hLne : L ≠ [] := fun e => by rw [e] at hlen; exact hne (List.eq_nil_of_length_eq_zero hlen.symm)
  cases hown with
  | nil A cap h => exact absurd rfl hLne
  | cons b cap _ fps kvs cur tt hn0 hcap hmax hz hh hc hk hsub =>
    obtain ⟨hbn, hfn⟩ := List.nodup_cons.1 hnd
    have slk : ∀ j, j < L.length → ∃ x n c, kvs j = .slice x n c := fun j hj => by
      obtain ⟨x, c, e⟩ := OwnK.sl (hsub j hj); exact ⟨x, _, c, e⟩
    let lr : List RT := (List.range L.length).map fun j => toRT (L.getD j default) (kvs j)
    have hlr : lr.length = L.length := by simp [lr]
    have glr : ∀ j, j < L.length → lr.getD j default = toRT (L.getD j default) (kvs j) := fun j hj => by
      simp [lr, List.getD_eq_getElem?_getD, hj]
    have hFa : Fa b (.slice (some ⟨b, 0, none⟩) L.length cap) L.length cap tt lr (mkL k0 (l0.take i)).1 i a w := ⟨hI.size, hI.defers, hI.t0, hI.t1, hI.t5, hlr, cur, hh, hz, fun j c hj hc' => by
      rw [glr j hj]
      by_cases h5 : c < 5
      · obtain ⟨v, hv⟩ := tree_v (L.getD j default) c h5
        obtain ⟨x, n, q, e⟩ := slk j hj
        exact ⟨v, hc j c v hj h5 hv, toRT_cell e c v c h5 hv rfl⟩
      · obtain rfl : c = 5 := by omega
        obtain ⟨x, n, q, e⟩ := slk j hj
        exact ⟨kvs j, hk j hj, by rw [e]; rfl⟩⟩
    have hR := mkR rfl hcap hmax hFa
    by_cases hi : i < l0.length
    · have hiL : i < L.length := by omega
      have hilr : i < lr.length := by omega
      refine wp_seq (kc_to (t := true) hd_dst hd_loops (by rw [e2, if_pos (by rw [decide_eq_true_eq]; omega)]) _ _ _ _ hR fun a1 w1 hR1 => ?_)
      simp only [if_true]
      show Code.wp _ _ _ _ _
      refine wp_seq (wp_block ?_)
      refine body_to hilr hR1 fun a2 w2 hR2 => ?_
      rw [rg13]
      refine wp_region_list ?_
      rw [l14]
      obtain ⟨st', hkp, hpre⟩ := evOps_pre (P := PP) (N := N) (ops := ops14) rfl (callsOk (cs := []) (ls := []) trivial) [o14 6, o14 7] _ _ kp d14 ((ep tt (lr.set i (rtm (lr.getD i default) (mkL k0 (l0.take i)).1)) (W (W (W (W (W ((mkL k0 (l0.take i)).1 + 1) + 1) + 1) + 1) + 1)) (i : Int)).trans (by rw [if_pos (Int.natCast_nonneg _), if_pos (by rw [List.length_set]; omega), if_pos (by rw [List.length_set, Int.toNat_natCast]; exact hilr)]))
      refine hpre _ a2 w2 _ hR2 fun a3 w3 hR3 => ?_
      obtain ⟨hkx, h57, h58⟩ : kx .normal st' = some (XID, W (W (W (W (W ((mkL k0 (l0.take i)).1 + 1) + 1) + 1) + 1) + 1), (i : Int), tt, lr.set i (rtm (lr.getD i default) (mkL k0 (l0.take i)).1)) ∧ a3.tmps.getD 57 undef = kvs i ∧ a3.tmps.getD 58 undef = .int .i64 (W (W (W (W (W ((mkL k0 (l0.take i)).1 + 1) + 1) + 1) + 1) + 1)) := by
        obtain ⟨ro, β, h0⟩ := hR3
        unfold kp at hkp
        split at hkp
        · rename_i r x y hr hx hy
          have s57 := h0.slots 57
          have s58 := h0.slots 58
          rw [hx] at s57; rw [hy] at s58
          have s57 := rep_v_inv (show Rep w3 ro (a3.tmps.getD 57 undef) (.v x) from s57)
          have s58 := rep_v_inv (show Rep w3 ro (a3.tmps.getD 58 undef) (.v y) from s58)
          cases hkp
          refine ⟨hr, ?_, s58⟩
          rw [s57]
          obtain ⟨x, n, q, e⟩ := slk i hiL
          have hg : (lr.set i (rtm (lr.getD i default) (mkL k0 (l0.take i)).1)).getD (i : Int).toNat default = rtm (lr.getD i default) (mkL k0 (l0.take i)).1 := by rw [Int.toNat_natCast]; exact getD_set hilr _
          rw [hg, glr i hiL, e]; rfl
        · cases hkp
      obtain ⟨hF3, hB3⟩ := exR rfl (kx_R hkx hR3)
      have bfp : ∀ x, x ∈ b :: (List.range L.length).flatMap fps → x < w.heap.size := fun x hx => Nat.lt_of_lt_of_le (hlt x hx) hI.chg.size
      have bne : ∀ j, j < L.length → ∀ x ∈ fps j, x ≠ b := fun j hj x hx e => hbn (e ▸ mem_fps hj hx)
      have sub3 : ∀ j, j < L.length → OwnK w3 (fps j) (kvs j) (L.getD j default).kids := fun j hj => (hsub j hj).mono fun x hx => hB3.block x (bfp x (List.mem_cons_of_mem _ (mem_fps hj hx))) (bne j hj x hx)
      obtain ⟨nx1, nx2, nx3⟩ := next (k0 := k0) hi
      rw [hL] at nx1 nx3
      have hsz : SizeOf.sizeOf (L.getD i default).kids ≤ m := by
        rw [nx3]
        have hg : l0.getD i default = l0[i] := by simp [List.getD_eq_getElem?_getD, hi]
        have h1 := List.sizeOf_lt_of_mem (List.getElem_mem hi)
        rw [hg]
        cases ht : l0[i] with
        | mk bb pp ll =>
          rw [ht] at h1
          simp only [Tree.mk.sizeOf_spec] at h1
          show SizeOf.sizeOf ll ≤ m
          omega
      refine wpList_plain (by kernel_rfl) fun K hK => ?_
      unfold Oper.wp
      rw [run_call h57 h58, Oper.upon_enter]
      refine (ih _ hsz w3 (fps i) (kvs i) (W (W (W (W (W ((mkL k0 (l0.take i)).1 + 1) + 1) + 1) + 1) + 1)) (sub3 i hiL) (nodup_fp hfn hiL) (fun x hx => Nat.lt_of_lt_of_le (bfp x (List.mem_cons_of_mem _ (mem_fps hiL hx))) hB3.size)).mono fun e w4 ⟨he, hm4, ho4⟩ => ?_
      subst he
      refine hK _ _ ?_
      have hd6 : (o14 6).dst = some 59 := by kernel_rfl
      rw [hd6]
      have n59 : 59 < a3.tmps.size := by rw [hF3.size]; have := N61; omega
      generalize ha4 : a3.put (some 59) (.int .i64 (mkL (W (W (W (W (W ((mkL k0 (l0.take i)).1 + 1) + 1) + 1) + 1) + 1)) (L.getD i default).kids).1) = a4
      have z4 : a4.tmps.size = N := by rw [← ha4, put_size, hF3.size]
      have g4 : ∀ j, j ≠ 59 → a4.tmps.getD j undef = a3.tmps.getD j undef := fun j hj => by rw [← ha4, put_getD n59, if_neg (Ne.symm hj)]
      have g59 : a4.tmps.getD 59 undef = .int .i64 (mkL (W (W (W (W (W ((mkL k0 (l0.take i)).1 + 1) + 1) + 1) + 1) + 1)) (L.getD i default).kids).1 := by rw [← ha4, put_getD n59, if_pos rfl]
      have d4 : a4.defers = [] := by rw [← ha4]; exact hF3.defers
      refine step_v (d := 1) (by kernel_rfl) (by kernel_rfl) (run_assign g59) (wpList_nil ?_)
      have n1 : 1 < a4.tmps.size := by rw [z4]; have := N61; omega
      show Code.wp PP (rg 14) Q _ w4
      have hk' : (mkL (W (W (W (W (W ((mkL k0 (l0.take i)).1 + 1) + 1) + 1) + 1) + 1)) (L.getD i default).kids).1 = (mkL k0 (l0.take (i + 1))).1 := by
        rw [nx2, nx3]; cases l0.getD i default; rfl
      have same4 : w4.heap[b]? = w3.heap[b]? := hm4.same b (Nat.lt_of_lt_of_le (bfp b List.mem_cons_self) hB3.size) fun h => bne i hiL b h rfl
      have hF4 : Fa b (.slice (some ⟨b, 0, none⟩) L.length cap) L.length cap tt (lr.set i (rtm (lr.getD i default) (mkL k0 (l0.take i)).1)) (mkL k0 (l0.take (i + 1))).1 i (a4.put (some 1) (.int .i64 (mkL (W (W (W (W (W ((mkL k0 (l0.take i)).1 + 1) + 1) + 1) + 1) + 1)) (L.getD i default).kids).1)) w4 := by
        refine ⟨by rw [put_size, z4], d4, ?_, ?_, ?_, hF3.len, ?_⟩
        · rw [put_getD n1, if_neg (by decide), g4 0 (by decide)]; exact hF3.t0
        · rw [put_getD n1, if_pos rfl, hk']
        · rw [put_getD n1, if_neg (by decide), g4 5 (by decide)]; exact hF3.t5
        · obtain ⟨cur3, c1, c2, c3⟩ := hF3.cur
          exact ⟨cur3, same4.trans c1, c2, c3⟩
      refine kx_to (by kernel_rfl) (lo (by kernel_rfl)) (e14 _ _ _ _) _ _ _ _ (mkR rfl hcap hmax hF4) fun a5 w5 hR5 => ?_
      obtain ⟨hF5, hB5⟩ := exR rfl hR5
      have h62 : i < 9223372036854775807 := by
        have : cap ≤ maxLen := hmax
        unfold maxLen at this
        omega
      rw [wpos h62] at hF5
      refine hn a5 w5 hi ?_
      have hL' : (L.set i (mkT (mkL k0 (l0.take i)).1 (l0.getD i default)).2).length = L.length := List.length_set ..
      have sub5 : ∀ j, j < L.length → OwnK w5 (fps j) (kvs j) ((L.set i (mkT (mkL k0 (l0.take i)).1 (l0.getD i default)).2).getD j default).kids := fun j hj => by
        have up : ∀ x, x ∈ fps j → w5.heap[x]? = w4.heap[x]? := fun x hx => hB5.block x (Nat.lt_of_lt_of_le (Nat.lt_of_lt_of_le (bfp x (List.mem_cons_of_mem _ (mem_fps hj hx))) hB3.size) hm4.size) (bne j hj x hx)
        by_cases hji : j = i
        · subst hji
          have hg : (L.set j (mkT (mkL k0 (l0.take j)).1 (l0.getD j default)).2).getD j default = (mkT (mkL k0 (l0.take j)).1 (l0.getD j default)).2 := by simp [List.getD_eq_getElem?_getD, hj]
          rw [hg]
          refine (ho4.mono up).congr ?_
          rw [nx3]; cases l0.getD j default; rfl
        · have hg : (L.set i (mkT (mkL k0 (l0.take i)).1 (l0.getD i default)).2).getD j default = L.getD j default := by simp [List.getD_eq_getElem?_getD, List.getElem?_set, Ne.symm hji]
          rw [hg]
          refine ((sub3 j hj).mono fun x hx => ?_).mono up
          exact hm4.same x (Nat.lt_of_lt_of_le (bfp x (List.mem_cons_of_mem _ (mem_fps hj hx))) hB3.size) fun h => hji (nodup_fps hfn hj hiL hx h)
      have chg5 : Mk w0 w5 (b :: (List.range L.length).flatMap fps) := by
        refine hI.chg.trans ?_
        have m1 : Mk w w3 (b :: (List.range L.length).flatMap fps) := ⟨hB3.os, hB3.tape, hB3.output, hB3.size, fun x hx hf => hB3.block x hx fun e => hf (e ▸ List.mem_cons_self), hB3.drawn⟩
        have m2 : Mk w3 w4 (b :: (List.range L.length).flatMap fps) := hm4.sub fun x hx => List.mem_cons_of_mem _ (mem_fps hiL hx)
        have m3 : Mk w4 w5 (b :: (List.range L.length).flatMap fps) := ⟨hB5.os, hB5.tape, hB5.output, hB5.size, fun x hx hf => hB5.block x hx fun e => hf (e ▸ List.mem_cons_self), hB5.drawn⟩
        exact (m1.trans m2).trans m3
      have own5 := own_Fa (L := L.set i (mkT (mkL k0 (l0.take i)).1 (l0.getD i default)).2) (fps := fps) (kvs := kvs) (fun e => hLne (List.eq_nil_of_length_eq_zero (by rw [← hL', e]; rfl))) (by rw [hL']; exact hcap) hmax (by rw [hL']; exact hF5) (fun j hj => by
          rw [hL'] at hj
          by_cases hji : j = i
          · subst hji
            rw [getD_set hilr, glr j hj]
            have hg : (L.set j (mkT (mkL k0 (l0.take j)).1 (l0.getD j default)).2).getD j default = (mkT (mkL k0 (l0.take j)).1 (l0.getD j default)).2 := by simp [List.getD_eq_getElem?_getD, hj]
            obtain ⟨x, n, q, e⟩ := slk j hj
            rw [hg, e]
            cases l0.getD j default; rfl
          · have hg : (L.set i (mkT (mkL k0 (l0.take i)).1 (l0.getD i default)).2).getD j default = L.getD j default := by simp [List.getD_eq_getElem?_getD, List.getElem?_set, Ne.symm hji]
            have hg2 : (lr.set i (rtm (lr.getD i default) (mkL k0 (l0.take i)).1)).getD j default = lr.getD j default := by simp [List.getD_eq_getElem?_getD, List.getElem?_set, Ne.symm hji]
            rw [hg, hg2, glr j hj]) (fun j hj => slk j (by rw [← hL']; exact hj)) (fun j hj => sub5 j (by rw [← hL']; exact hj))
      rw [hL', nx1] at own5
      exact ⟨by omega, hF5.size, hF5.defers, hF5.t0, hF5.t1, hF5.t5, own5, chg5⟩
    · have hie : i = l0.length := by have := hI.le; omega
      refine wp_seq (kc_to (t := false) hd_dst hd_loops (by rw [e2, if_neg (by rw [decide_eq_true_eq]; omega)]) _ _ _ _ hR fun a1 w1 hR1 => ?_)
      simp only [Bool.false_eq_true, if_false]
      obtain ⟨hF1, hB1⟩ := exR rfl hR1
      refine hx a1 w1 ?_
      have bfp : ∀ x, x ∈ b :: (List.range L.length).flatMap fps → x < w.heap.size := fun x hx => Nat.lt_of_lt_of_le (hlt x hx) hI.chg.size
      have own1 := own_Fa hLne hcap hmax hF1 glr slk (fun j hj => (hsub j hj).mono fun x hx => hB1.block x (bfp x (List.mem_cons_of_mem _ (mem_fps hj hx))) fun e => hbn (e ▸ mem_fps hj hx))
      have own2 : OwnK w1 (b :: (List.range L.length).flatMap fps) (.slice (some ⟨b, 0, none⟩) L.length cap) ((mkL k0 (l0.take l0.length)).2 ++ l0.drop l0.length) := by rw [← hie, hL]; exact own1
      have t1' := hF1.t1
      have t5' := hF1.t5
      rw [hie] at t1' t5'
      exact ⟨Nat.le_refl _, hF1.size, hF1.defers, hF1.t0, t1', t5', own2, hI.chg.trans ⟨hB1.os, hB1.tape, hB1.output, hB1.size, fun x hx hf => hB1.block x hx fun e => hf (e ▸ List.mem_cons_self), hB1.drawn⟩⟩
theorem ms : ∀ (m : Nat) (l0 : List Tree), SizeOf.sizeOf l0 ≤ m → ∀ (w : World) (fp : List Nat) (kv : Value) (k0 : Int), OwnK w fp kv l0 → fp.Nodup → (∀ b ∈ fp, b < w.heap.size) →
    Calls PP 23 #[kv, .int .i64 k0] w fun e w' => e = .returned (.int .i64 (mkL k0 l0).1) ∧ Mk w w' fp ∧ OwnK w' fp kv (mkL k0 l0).2 := by
  intro m
  induction m with
  | zero =>
    intro l0 hm
    have : 0 < SizeOf.sizeOf l0 := by cases l0 <;> simp <;> omega
    omega
  | succ m ih =>
    intro l0 hm w fp kv k0 hown hnd hlt
    refine calls_of_wp Try.func23 (c := bd) (by kernel_rfl) ?_
    rw [shape]
    generalize ha0 : ({ tmps := #[kv, .int .i64 k0] ++ Array.replicate (Try.f23.ntmps - (#[kv, .int .i64 k0] : Array Value).size) undef, defers := [] } : Act) = a0
    have z0 : a0.tmps.size = N := by rw [← ha0]; kernel_rfl
    have d0 : a0.defers = [] := by rw [← ha0]
    have g0 : a0.tmps.getD 0 undef = kv := by rw [← ha0]; kernel_rfl
    have g1 : a0.tmps.getD 1 undef = .int .i64 k0 := by rw [← ha0]; kernel_rfl
    clear ha0
    have n4 : 4 < a0.tmps.size := by rw [z0]; have := N61; omega
    refine wp_seq ?_
    rw [show rg 0 = .region 0 #[(match rg 0 with | .region _ ops _ => ops.getD 0 dOper | _ => dOper)] false from by kernel_rfl]
    refine wp_region_list (step_v (d := 4) (v := .int .i64 0) (w' := w) (by kernel_rfl) (by kernel_rfl) ?_ (wpList_nil ?_))
    · have e : (match rg 0 with | .region _ ops _ => ops.getD 0 dOper | _ => dOper).op = .assign (.const (.int .i64 0)) := by kernel_rfl
      simp only [execOp, e]
      rfl
    show Code.wp _ _ _ _ _
    refine wp_seq (wp_seq ?_)
    rw [show rg 1 = .region 1 #[(match rg 1 with | .region _ ops _ => ops.getD 0 dOper | _ => dOper)] false from by kernel_rfl]
    refine wp_region_list (step_v (d := 5) (v := .int .i64 0) (w' := w) (by kernel_rfl) (by kernel_rfl) ?_ (wpList_nil ?_))
    · have e : (match rg 1 with | .region _ ops _ => ops.getD 0 dOper | _ => dOper).op = .assign (.const (.int .i64 0)) := by kernel_rfl
      simp only [execOp, e]
      rfl
    show Code.wp _ _ _ _ _
    generalize ha1 : (a0.put (some 4) (.int .i64 0)).put (some 5) (.int .i64 0) = a1
    have n5 : 5 < (a0.put (some 4) (.int .i64 0)).tmps.size := by rw [put_size, z0]; have := N61; omega
    have z1 : a1.tmps.size = N := by rw [← ha1, put_size, put_size, z0]
    have d1 : a1.defers = [] := by rw [← ha1]; exact d0
    have f0 : a1.tmps.getD 0 undef = kv := by rw [← ha1, put_getD n5, if_neg (by decide), put_getD n4, if_neg (by decide)]; exact g0
    have f1 : a1.tmps.getD 1 undef = .int .i64 k0 := by rw [← ha1, put_getD n5, if_neg (by decide), put_getD n4, if_neg (by decide)]; exact g1
    have f5 : a1.tmps.getD 5 undef = .int .i64 0 := by rw [← ha1, put_getD n5, if_pos rfl]
    clear ha1
    refine wp_block ?_
    by_cases hne : l0 = []
    · subst hne
      cases hown with
      | nil A cap h =>
        refine wp_loop_once (wp_seq ?_)
        obtain ⟨e, st', hk, hto⟩ := evCode_ok (P := PP) rfl mixed (callsOk (cs := []) (ls := []) trivial) hdC (stE k0) kE hd_dst hd_loops (eE k0)
        have hR : R ⟨w, fun _ => False, fun _ => False, none⟩ N (get (stE k0).1) (getB (stE k0).2) a1 w := by
          refine ⟨fun _ => False, fun _ => none, ⟨⟨rfl, rfl, rfl, Nat.le_refl _, fun _ _ _ => rfl, Nat.le_refl _⟩, fun s => ?_, fun id x hx => (by cases hx), fun id id' x x' bb k1 k2 hx => (by cases hx), fun _ _ => rfl, fun b hb => hb.elim, fun b hb => hb.elim, fun id k b q hk => (by cases hk), d1, z1, fun _ h => (by cases h), fun _ _ _ hx => (by cases hx)⟩⟩
          unfold stE
          simp only [Ev.get]
          cases hs0 : Nat.beq 0 s with
          | true => have := beq_iff.1 hs0; subst this; show Rep _ _ _ _; rw [f0]; exact Rep.sl A cap .rt [] (fun _ _ => undef) (Nat.zero_le _) h (fun j hj => absurd hj (Nat.not_lt_zero j)) (fun j c hj => absurd hj (Nat.not_lt_zero j))
          | false =>
            cases hs1 : Nat.beq 1 s with
            | true => have := beq_iff.1 hs1; subst this; show Rep _ _ _ _; rw [f1]; exact .v _
            | false =>
              cases hs5 : Nat.beq 5 s with
              | true => have := beq_iff.1 hs5; subst this; show Rep _ _ _ _; rw [f5]; exact .v _
              | false => trivial
        unfold kE at hk
        split at hk
        · rename_i h1
          cases hk
          refine hto _ a1 w _ hR fun a2 w2 hR2 => ?_
          obtain ⟨ro, β, h2⟩ := hR2
          have s1 := h2.slots 1
          rw [h1] at s1
          refine tail h2.size h2.defers (rep_v_inv (show Rep w2 ro (a2.tmps.getD 1 undef) (.v (.int .i64 k0)) from s1)) ?_
          have mm : Mk w w2 [] := ⟨h2.below.os, h2.below.tape, h2.below.output, h2.below.size, fun b hb _ => h2.below.block b hb fun h => h, h2.below.drawn⟩
          refine ⟨by simp [mkL], mm, ?_⟩
          simp only [mkL]
          exact .nil A cap h
        · cases hk
      | cons b cap l fps kvs cur tt hn => exact absurd rfl hn
    · refine wp_loop (fun a' w' => ∃ i, MInv w fp kv k0 l0 i a' w') (fun a' _ => match a'.tmps.getD 5 undef with | .int _ n => l0.length - n.toNat | _ => 0) ⟨0, Nat.zero_le _, z1, d1, f0, by simpa [mkL] using f1, f5, by simpa [mkL] using hown, Mk.refl _ _⟩ fun a2 w2 ⟨i, hI⟩ => ?_
      refine round m ih hm hne hnd hlt hI (fun a3 w3 hi hI3 => ?_) fun a3 w3 hI3 => ?_
      · refine ⟨⟨i + 1, hI3⟩, ?_⟩
        simp only [hI3.t5, hI.t5, Int.toNat_natCast]
        omega
      · show ((rg 15).seq .ret).wp _ _ a3 w3
        have e1 := hI3.t1
        have o1 := hI3.own
        rw [List.take_length] at e1 o1
        rw [List.drop_length, List.append_nil] at o1
        exact tail hI3.size hI3.defers e1 ⟨rfl, hI3.chg, o1⟩
namespace sol
noncomputable def bd : Code := match Try.f10.body with | some c => c | none => .skip
noncomputable def op (i j : Nat) : Oper := match (rgs bd).getD i .skip with | .region _ ops _ => ops.getD j dOper | _ => dOper
theorem shape : bd = (Code.region 0 #[op 0 0, op 0 1] false).seq ((Code.region 1 #[op 1 0, op 1 1, op 1 2, op 1 3, op 1 4] false).seq ((Code.region 2 #[op 2 0, op 2 1] false).seq .ret)) := by kernel_rfl
theorem evalp {a : Act} {i : Nat} : a.eval (.tmp i) = a.tmps.getD i undef := rfl
theorem mv {o : Oper} {a : Act} {w : World} {x : Nat} {v : Value} (ho : o.op = .move (.tmp x) ∨ o.op = .assign (.tmp x)) (h : a.tmps.getD x undef = v) : (execOp a.eval o).run PP w = .ok (.value v) w := by
  have e : a.eval (.tmp x) = v := h
  rcases ho with ho | ho
  · simp [execOp, ho, e]
  · simp [execOp, ho, e]
theorem ok : ∀ (l : List Tree) (n : Int) (v0 : Value) (w : World) (k : Blk), OwnK w k.fp k.v l → k.fp.Nodup → (∃ xs : List Value, xs.length = 5 ∧ v0 = .agg (xs ++ [k.v]).toArray) → (∀ b ∈ k.fp, b < w.heap.size) →
    Calls PP 10 #[v0, .int .i64 n] w fun e w' => e = .returned (.int .i64 (mkL n l).1) ∧ Mk w w' k.fp ∧ OwnK w' k.fp k.v (mkL n l).2 := fun l n v0 w k hown hnd ⟨xs, h5, e0⟩ hlt => by
  subst e0
  refine calls_of_wp Try.func10 (c := bd) (by kernel_rfl) ?_
  rw [shape]
  generalize ha0 : ({ tmps := #[.agg (xs ++ [k.v]).toArray, .int .i64 n] ++ Array.replicate (Try.f10.ntmps - (#[.agg (xs ++ [k.v]).toArray, .int .i64 n] : Array Value).size) undef, defers := [] } : Act) = a0
  have z0 : a0.tmps.size = 10 := by rw [← ha0]; kernel_rfl
  have d0 : a0.defers = [] := by rw [← ha0]
  have g0 : a0.tmps.getD 0 undef = .agg (xs ++ [k.v]).toArray := by rw [← ha0]; kernel_rfl
  have g1 : a0.tmps.getD 1 undef = .int .i64 n := by rw [← ha0]; kernel_rfl
  clear ha0
  generalize hC : (xs ++ [k.v]).toArray = C at g0
  have hC5 : C[5]? = some k.v := by rw [← hC]; simp [h5]
  refine wp_seq (wp_region_list ?_)
  refine step_v (d := 2) (v := .pointer (some ⟨w.heap.size, 0, none⟩)) (w' := w.alloc (.cells C 33)) (by kernel_rfl) (by kernel_rfl) ?_ ?_
  · have e : (op 0 0).op = .box 33 (.tmp 0) := by kernel_rfl
    have ev : a0.eval (.tmp 0) = .agg C := g0
    simp [execOp, e, ev, Instr.box, newVar, newRow, Value.cells]
  have gr : ∀ (a : Act) (d i : Nat) (v : Value), a.tmps.size = 10 → d < 10 → (a.put (some d) v).tmps.getD i undef = if d = i then v else a.tmps.getD i undef := fun a d i v hs hd => put_getD (by omega)
  generalize hw1 : w.alloc (.cells C 33) = w1
  have q1 : w1.heap[w.heap.size]? = some (.cells C 33 (0, 0)) := by rw [← hw1]; exact al_new _ _
  have s1 : w1.heap.size = w.heap.size + 1 := by rw [← hw1]; exact al_size _ _
  have o1 : ∀ b, b < w.heap.size → w1.heap[b]? = w.heap[b]? := fun b hb => by rw [← hw1]; exact Below.heap_alloc w _ b hb
  have m1 : Mk w w1 k.fp := by
    refine ⟨?_, ?_, ?_, by omega, fun b hb _ => o1 b hb, ?_⟩ <;> rw [← hw1] <;> first | rfl | exact Nat.le_refl _
  clear hw1
  generalize ha1 : a0.put (some 2) (.pointer (some ⟨w.heap.size, 0, none⟩)) = a1
  have z1 : a1.tmps.size = 10 := by rw [← ha1, put_size, z0]
  have d1 : a1.defers = [] := by rw [← ha1]; exact d0
  have a12 : a1.tmps.getD 2 undef = .pointer (some ⟨w.heap.size, 0, none⟩) := by rw [← ha1, gr _ _ _ _ z0 (by omega), if_pos rfl]
  have a11 : a1.tmps.getD 1 undef = .int .i64 n := by rw [← ha1, gr _ _ _ _ z0 (by omega), if_neg (by decide)]; exact g1
  clear ha1
  refine step_v (d := 4) (v := .int .i64 0) (w' := w1) (by kernel_rfl) (by kernel_rfl) ?_ (wpList_nil ?_)
  · have e : (op 0 1).op = .assign (.const (.int .i64 0)) := by kernel_rfl
    simp only [execOp, e]; rfl
  show Code.wp _ _ _ _ _
  generalize ha2 : a1.put (some 4) (.int .i64 0) = a2
  have z2 : a2.tmps.size = 10 := by rw [← ha2, put_size, z1]
  have d2 : a2.defers = [] := by rw [← ha2]; exact d1
  have a22 : a2.tmps.getD 2 undef = .pointer (some ⟨w.heap.size, 0, none⟩) := by rw [← ha2, gr _ _ _ _ z1 (by omega), if_neg (by decide)]; exact a12
  have a21 : a2.tmps.getD 1 undef = .int .i64 n := by rw [← ha2, gr _ _ _ _ z1 (by omega), if_neg (by decide)]; exact a11
  clear ha2
  refine wp_seq (wp_region_list ?_)
  refine step_v (d := 5) (v := .pointer (some ⟨w.heap.size, 5, none⟩)) (w' := w1) (by kernel_rfl) (by kernel_rfl) ?_ ?_
  · have e : (op 1 0).op = .fieldAddr 33 (.tmp 2) 2 := by kernel_rfl
    have ev : a2.eval (.tmp 2) = .pointer (some ⟨w.heap.size, 0, none⟩) := a22
    have hf := run_fieldAt (P := PP) (s := 33) (f := 2) (k := 5) (t := 31) (by kernel_rfl) (ad := ⟨w.heap.size, 0, none⟩) rfl w1
    simp only [execOp, e, ev]
    exact run_val (α := Unit) hf
  generalize ha3 : a2.put (some 5) (.pointer (some ⟨w.heap.size, 5, none⟩)) = a3
  have z3 : a3.tmps.size = 10 := by rw [← ha3, put_size, z2]
  have d3 : a3.defers = [] := by rw [← ha3]; exact d2
  have a35 : a3.tmps.getD 5 undef = .pointer (some ⟨w.heap.size, 5, none⟩) := by rw [← ha3, gr _ _ _ _ z2 (by omega), if_pos rfl]
  have a31 : a3.tmps.getD 1 undef = .int .i64 n := by rw [← ha3, gr _ _ _ _ z2 (by omega), if_neg (by decide)]; exact a21
  clear ha3
  refine step_v (d := 6) (v := k.v) (w' := w1) (by kernel_rfl) (by kernel_rfl) ?_ ?_
  · have e : (op 1 1).op = .load 31 (.tmp 5) := by kernel_rfl
    have ev : a3.eval (.tmp 5) = .pointer (some ⟨w.heap.size, 5, none⟩) := a35
    simp only [execOp, e, ev, Instr.loadAt, Instr.sureAddr]
    refine run_val (α := Unit) ?_
    rw [run_bind_ok (x := ⟨w.heap.size, 5, none⟩) (w' := w1) rfl]
    unfold loadVar
    rw [run_bind_ok (pr_agg (P := PP) (t := 31) (b := false) (by kernel_rfl) w1)]
    simp only [Bool.false_eq_true, if_false, run_load]
    have : w1.cell? ⟨w.heap.size, 5, none⟩ = some k.v := by simp [World.cell?, q1, hC5]
    rw [this]
  generalize ha4 : a3.put (some 6) k.v = a4
  have z4 : a4.tmps.size = 10 := by rw [← ha4, put_size, z3]
  have d4 : a4.defers = [] := by rw [← ha4]; exact d3
  have a46 : a4.tmps.getD 6 undef = k.v := by rw [← ha4, gr _ _ _ _ z3 (by omega), if_pos rfl]
  have a41 : a4.tmps.getD 1 undef = .int .i64 n := by rw [← ha4, gr _ _ _ _ z3 (by omega), if_neg (by decide)]; exact a31
  clear ha4
  refine step_v (d := 7) (v := .int .i64 n) (w' := w1) (by kernel_rfl) (by kernel_rfl) (mv (.inl (by kernel_rfl)) a41) ?_
  generalize ha5 : a4.put (some 7) (.int .i64 n) = a5
  have z5 : a5.tmps.size = 10 := by rw [← ha5, put_size, z4]
  have d5 : a5.defers = [] := by rw [← ha5]; exact d4
  have a56 : a5.tmps.getD 6 undef = k.v := by rw [← ha5, gr _ _ _ _ z4 (by omega), if_neg (by decide)]; exact a46
  have a57 : a5.tmps.getD 7 undef = .int .i64 n := by rw [← ha5, gr _ _ _ _ z4 (by omega), if_pos rfl]
  clear ha5
  refine wpList_plain (by kernel_rfl) fun K hK => ?_
  unfold Oper.wp
  have hcall : (execOp a5.eval (op 1 3)).run PP w1 = .ok (.enter 23 #[k.v, .int .i64 n]) w1 := by
    obtain ⟨c, e, e1, e2⟩ : ∃ c, (op 1 3).op = .call c ∧ c.callee = .value (.func 23) ∧ c.args = #[.tmp 6, .tmp 7] := ⟨match (op 1 3).op with | .call c => c | _ => default, by kernel_rfl, by kernel_rfl, by kernel_rfl⟩
    have hm : Array.map a5.eval #[.tmp 6, .tmp 7] = #[k.v, .int .i64 n] := by
      have g1 : a5.eval (.tmp 6) = k.v := a56
      have g2 : a5.eval (.tmp 7) = .int .i64 n := a57
      simp [g1, g2]
    simp only [execOp, e, resolve, e1, e2, hm, Act.eval, Deferred.ofValue, Sem.run_bind, Sem.run_pure, Result.andThen_ok, invoke, Array.empty_append, Array.append_empty, List.append_nil]
    exact run_callFunc (P := PP) (f := 23) (by kernel_rfl) _ w1
  rw [hcall, Oper.upon_enter]
  refine (ms _ l (Nat.le_refl _) w1 k.fp k.v n (hown.mono fun b hb => o1 b (hlt b hb)) hnd (fun b hb => by have := hlt b hb; omega)).mono fun e w4 ⟨he, hm4, ho4⟩ => ?_
  subst he
  refine hK _ _ ?_
  have hd8 : (op 1 3).dst = some 8 := by kernel_rfl
  rw [hd8]
  generalize ha6 : a5.put (some 8) (.int .i64 (mkL n l).1) = a6
  have z6 : a6.tmps.size = 10 := by rw [← ha6, put_size, z5]
  have d6 : a6.defers = [] := by rw [← ha6]; exact d5
  have a68 : a6.tmps.getD 8 undef = .int .i64 (mkL n l).1 := by rw [← ha6, gr _ _ _ _ z5 (by omega), if_pos rfl]
  clear ha6
  refine step_v (d := 1) (v := .int .i64 (mkL n l).1) (w' := w4) (by kernel_rfl) (by kernel_rfl) (mv (.inr (by kernel_rfl)) a68) (wpList_nil ?_)
  show Code.wp _ _ _ _ _
  generalize ha7 : a6.put (some 1) (.int .i64 (mkL n l).1) = a7
  have z7 : a7.tmps.size = 10 := by rw [← ha7, put_size, z6]
  have d7 : a7.defers = [] := by rw [← ha7]; exact d6
  have a71 : a7.tmps.getD 1 undef = .int .i64 (mkL n l).1 := by rw [← ha7, gr _ _ _ _ z6 (by omega), if_pos rfl]
  clear ha7
  refine wp_seq (wp_region_list ?_)
  refine step_v (d := 9) (v := .int .i64 (mkL n l).1) (w' := w4) (by kernel_rfl) (by kernel_rfl) (mv (.inl (by kernel_rfl)) a71) ?_
  generalize ha8 : a7.put (some 9) (.int .i64 (mkL n l).1) = a8
  have z8 : a8.tmps.size = 10 := by rw [← ha8, put_size, z7]
  have d8 : a8.defers = [] := by rw [← ha8]; exact d7
  have a89 : a8.tmps.getD 9 undef = .int .i64 (mkL n l).1 := by rw [← ha8, gr _ _ _ _ z7 (by omega), if_pos rfl]
  clear ha8
  refine step_v (d := 4) (v := .int .i64 (mkL n l).1) (w' := w4) (by kernel_rfl) (by kernel_rfl) (mv (.inr (by kernel_rfl)) a89) (wpList_nil ?_)
  generalize ha9 : a8.put (some 4) (.int .i64 (mkL n l).1) = a9
  have d9 : a9.defers = [] := by rw [← ha9]; exact d8
  have a94 : a9.tmps.getD 4 undef = .int .i64 (mkL n l).1 := by rw [← ha9, gr _ _ _ _ z8 (by omega), if_pos rfl]
  clear ha9
  refine wp_ret ⟨d9, .int .i64 (mkL n l).1, ?_, rfl, m1.trans hm4, ho4⟩
  have hr : Try.f10.results.toList = [.tmp 4] := by kernel_rfl
  have := run_results (P := PP) (fn := Try.f10) (tmps := a9.tmps) (w := w4) (vs := [.int .i64 (mkL n l).1]) (by rw [hr]; rfl) (fun i r' v' e1 e2 => by
    rw [hr] at e1
    cases i with
    | zero =>
      simp at e1 e2; subst e1 e2
      show Sem.run PP (pure (a9.tmps.getD 4 undef)) w4 = _
      rw [a94]; rfl
    | succ i => simp at e1)
  simpa using this
end sol
end mark
noncomputable def laws_markSolid.f (k : Nat) (l : List Tree) (n : Int) : Option (Int × List Tree) := some (mkL n l)
noncomputable def laws_markSolid.e (k : Nat) : GV := { δ := List Tree × Int, β := Int × List Tree, sk := .sol, go := fun b xs => match b, xs with | .kids l, [.v (.int .i64 n)] => some (l, n) | _, _ => none, f := fun d => laws_markSolid.f k d.1 d.2, rt := fun _ b => .one (.v (.int .i64 b.1)), bx := fun _ b => .kids b.2 }
theorem laws_markSolid.ok (k : Nat) : FunS Try.prog 10 (laws_markSolid.e k).sk (laws_markSolid.e k).H where
  can := by kernel_rfl
  runs := fun bx ar rt bx' hH v0 vs w A kb hA hn hbx hv0 hown hlt hrep => by
    unfold GV.H laws_markSolid.e at hH
    simp only at hH
    split at hH
    · rename_i d hd
      split at hd
      · rename_i l n
        cases hd
        simp only [laws_markSolid.f] at hH
        cases hH
        have hn : vs.size = 1 := hn
        have hv : vs = #[.int .i64 n] := by
          have := rep_v_inv (hrep 0 vs[0] _ (by simp) rfl)
          apply Array.ext_getElem?
          intro i
          match i with
          | 0 => simp [hn, this]
          | i + 1 => simp [hn]
        subst hv
        refine (mark.sol.ok l n v0 w kb hbx.1 hbx.2 hv0 (fun b hb => hlt b .deep hb)).mono fun e w' ⟨he, hm, ho⟩ => ⟨_, he, ⟨hm.os, hm.tape, hm.output, hm.size, fun b hb hx => hm.same b hb hx, hm.drawn⟩, ⟨ho, hbx.2⟩, .inl rfl, .v _⟩
      · cases hd
    · cases hH
end Go.Proofs.Ytalkkenkeilmpaa.G
