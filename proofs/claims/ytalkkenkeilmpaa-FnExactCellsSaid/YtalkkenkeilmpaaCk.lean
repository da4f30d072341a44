/- A copy of a row of planes is all its own; a row of rows of one's own is marked all through. Walked by hand (printed by wip/mkck.py). -/
import Derived.Test.YtalkkenkeilmpaaTd
namespace Go.Proofs.Ytalkkenkeilmpaa.G
open Go Go.RowKit Go.Proofs Go.Proofs.Ytalkkenkeilmpaa.Ev
set_option linter.unusedVariables false
set_option linter.unusedSimpArgs false
namespace ck
open mark (rgs put_getD put_size)
open tsol (run_mv run_index step_c)
noncomputable abbrev PP : Program := Try.prog
section
variable {P : Program} {o : Oper} {a : Act} {w : World} {c : Call}
theorem run_len {x : Nat} {t el : TypeId} {A : Option Addr} {n cap : Nat} (ho : o.op = .call c) (hc : c.callee = .builtin .len) (hargs : c.args = #[.tmp x]) (ht : c.argTypes[0]? = some t) (hu : P.underlying t = some (.slice el)) (hv : a.tmps.getD x undef = .slice A n cap) : (execOp a.eval o).run P w = .ok (.value (.int .i64 (n : Int))) w := by
  have hv : a.eval (.tmp x) = .slice A n cap := hv
  simp only [execOp, ho, resolve, hc, hargs, List.map_toArray, List.map_cons, List.map_nil, hv, Sem.run_bind, Sem.run_pure, Result.andThen_ok, invoke, builtin]
  unfold Builtin.len_
  simp only [ht]
  simp only [List.getElem?_toArray, List.getElem?_cons_zero]
  rw [run_bind_ok (pr_under hu w)]
  rfl
theorem run_lss {x y : Nat} {t t' : TypeId} {p q : Int} (ho : o.op = .binOp .lss t (.tmp x) (.tmp y) t') (hx : a.tmps.getD x undef = .int .i64 p) (hy : a.tmps.getD y undef = .int .i64 q) : (execOp a.eval o).run P w = .ok (.value (.bool (decide (p < q)))) w := by
  have hx : a.eval (.tmp x) = .int .i64 p := hx
  have hy : a.eval (.tmp y) = .int .i64 q := hy
  simp only [execOp, ho, hx, hy]
  rfl
theorem run_inc {x : Nat} {t t' : TypeId} {p : Int} (ho : o.op = .binOp .add t (.tmp x) (.const (.int .i64 1)) t') (hx : a.tmps.getD x undef = .int .i64 p) : (execOp a.eval o).run P w = .ok (.value (.int .i64 (W (p + 1)))) w := by
  have hx : a.eval (.tmp x) = .int .i64 p := hx
  simp only [execOp, ho, hx]
  rfl
theorem run_call2 {f : FuncId} {x y : Nat} {v u : Value} (ho : o.op = .call c) (h1 : c.callee = .value (.func f)) (h2 : c.args = #[.tmp x, .tmp y]) (hc : callable P f = true) (hx : a.tmps.getD x undef = v) (hy : a.tmps.getD y undef = u) : (execOp a.eval o).run P w = .ok (.enter f #[v, u]) w := by
  have hm : Array.map a.eval #[.tmp x, .tmp y] = #[v, u] := by
    have g1 : a.eval (.tmp x) = v := hx
    have g2 : a.eval (.tmp y) = u := hy
    simp [g1, g2]
  simp only [execOp, ho, resolve, h1, h2, hm, Act.eval, Deferred.ofValue, Sem.run_bind, Sem.run_pure, Result.andThen_ok, invoke, Array.empty_append, Array.append_empty, List.append_nil]
  exact run_callFunc (P := P) (f := f) hc #[v, u] w
theorem run_ld {t : TypeId} {x b off : Nat} {v : Value} (ho : o.op = .load t (.tmp x)) (hx : a.tmps.getD x undef = .pointer (some ⟨b, off, none⟩)) (hag : agP P t = some false) (hc : w.cell? ⟨b, off, none⟩ = some v) : (execOp a.eval o).run P w = .ok (.value v) w := by
  have ev : a.eval (.tmp x) = .pointer (some ⟨b, off, none⟩) := hx
  simp only [execOp, ho, ev, Instr.loadAt, Instr.sureAddr]
  refine run_val (α := Unit) ?_
  rw [run_bind_ok (x := ⟨b, off, none⟩) (w' := w) rfl]
  unfold loadVar
  rw [run_bind_ok (pr_agg hag w)]
  simp only [Bool.false_eq_true, if_false, run_load, hc]
theorem run_ix {t el : TypeId} {z : Nat} {x y b n cap i : Nat} (ho : o.op = .indexAddr t (.tmp x) (.tmp y)) (ht : P.underlying t = some (.slice el)) (hz : szP P el = some z) (hx : a.tmps.getD x undef = .slice (some ⟨b, 0, none⟩) n cap) (hy : a.tmps.getD y undef = .int .i64 (i : Int)) (hn : i < n) : (execOp a.eval o).run P w = .ok (.value (.pointer (some ⟨b, i * z, none⟩))) w := by
  have e1 : a.eval (.tmp x) = .slice (some ⟨b, 0, none⟩) n cap := hx
  have e2 : a.eval (.tmp y) = .int .i64 (i : Int) := hy
  simp only [execOp, ho, e1, e2]
  exact run_val (α := Unit) (run_index ht hz hn w)
theorem run_nil {t t' el : TypeId} {x : Nat} {A : Option Addr} {n cap : Nat} (ho : o.op = .binOp .eql t (.tmp x) (.const (.slice none 0 0)) t') (ht : P.underlying t = some (.slice el)) (hx : a.tmps.getD x undef = .slice A n cap) : (execOp a.eval o).run P w = .ok (.value (.bool A.isNone)) w := by
  have hx : a.eval (.tmp x) = .slice A n cap := hx
  have h0 : a.eval (.const (.slice none 0 0)) = .slice none 0 0 := rfl
  simp only [execOp, ho, hx, h0]
  refine run_val (α := Unit) ?_
  rw [Go.eqGuard_at_slice]
  simp only [binOp, Sem.run_bind, Sem.run_pure, Result.andThen_ok, run_equal_slice_nil w t el A n cap ht]
end
theorem res1 {fn : Func} {a : Act} {w : World} {d : Nat} {v : Value} (hr : fn.results.toList = [.tmp d]) (hd : a.tmps.getD d undef = v) : (results fn a.tmps).run PP w = .ok v w := by
  have := run_results (P := PP) (fn := fn) (tmps := a.tmps) (w := w) (vs := [v]) (by rw [hr]; rfl) (fun i r' v' e1 e2 => by
    rw [hr] at e1
    cases i with
    | zero =>
      simp at e1 e2; subst e1 e2
      show Sem.run PP (pure (a.tmps.getD d undef)) w = _
      rw [hd]; rfl
    | succ i => simp at e1)
  simpa using this

/-! ### the marks -/
namespace M
noncomputable def bd : Code := match Try.f11.body with | some c => c | none => .skip
noncomputable def rg (i : Nat) : Code := (rgs bd).getD i .skip
noncomputable def op (i j : Nat) : Oper := match rg i with | .region _ ops _ => ops.getD j dOper | _ => dOper
theorem shape : bd = (rg 0).seq (((rg 1).seq (.block 0 (.loop (((rg 2).seq (.cond (.tmp 9) .skip (.exit 0))).seq ((Code.block 1 (rg 3)).seq (rg 4)))))).seq ((rg 5).seq .ret)) := by kernel_rfl
theorem g0 : rg 0 = .region 0 #[op 0 0] false := by kernel_rfl
theorem g1 : rg 1 = .region 1 #[op 1 0] false := by kernel_rfl
theorem g2 : rg 2 = .region 2 #[op 2 0, op 2 1, op 2 2, op 2 3] false := by kernel_rfl
theorem g3 : rg 3 = .region 4 #[op 3 0, op 3 1, op 3 2, op 3 3, op 3 4, op 3 5, op 3 6] false := by kernel_rfl
theorem g4 : rg 4 = .region 3 #[op 4 0, op 4 1, op 4 2] false := by kernel_rfl
theorem g5 : rg 5 = .region 5 #[op 5 0, op 5 1] false := by kernel_rfl
def rows (f : List S4 → Int → Option (Int × List S4)) : List (List S4) → Int → Option (Int × List (List S4))
  | [], m => some (m, [])
  | l :: ls, m => (f l m).bind fun r => (rows f ls r.1).bind fun q => some (q.1, r.2 :: q.2)
noncomputable def eMP (f : List S4 → Int → Option (Int × List S4)) : FS := { σ := List S4, α := Int × Unit, β := Int, sk := .row, st := xRow 30 .s4, args := lCons (aI .i64) lNil, ret := rOne (aI .i64), f := fun s p => f s p.1 }
structure TInv (f : List S4 → Int → Option (Int × List S4)) (w0 : World) (v : Value) (n : Nat) (fp : List Nat) (lf : List (List S4)) (mf : Int) (i : Nat) (a : Act) (w : World) : Prop where
  le : i ≤ n
  size : a.tmps.size = 19
  defers : a.defers = []
  t0 : a.tmps.getD 0 undef = v
  t5 : a.tmps.getD 5 undef = .int .i64 (i : Int)
  row : ∃ ys m rest, ys.length = n ∧ a.tmps.getD 1 undef = .int .i64 m ∧ OwnR 43 30 w fp v ys ∧ rows f (ys.drop i) m = some (mf, rest) ∧ lf = ys.take i ++ rest
  chg : BelowX ⟨w0, fun b => b ∈ fp, fun _ => False, none⟩ w
theorem val {t te : TypeId} {w : World} {fp : List Nat} {v : Value} {l : List (List S4)} (h : OwnR t te w fp v l) : ∃ B c, v = .slice B l.length c := by
  obtain ⟨xs, fps, h1, _⟩ := h
  rcases h1.2 with ⟨e, e0⟩ | ⟨g, cap, cur, e, _⟩
  · exact ⟨none, 0, by rw [e, e0]⟩
  · exact ⟨_, _, e⟩
theorem round {f : List S4 → Int → Option (Int × List S4)} (hC : FunS PP 24 (eMP f).sk (eMP f).H) {w0 : World} {v : Value} {n : Nat} {fp : List Nat} (hnd : fp.Nodup) (hlt0 : ∀ b ∈ fp, b < w0.heap.size) {lf : List (List S4)} {mf : Int} {i : Nat} {a0 : Act} {w : World} (hI : TInv f w0 v n fp lf mf i a0 w) {Q : Exit → Act → World → Prop}
    (hn : ∀ a' w', i < n → TInv f w0 v n fp lf mf (i + 1) a' w' → Q .normal a' w') (hx : ∀ a' w', TInv f w0 v n fp lf mf n a' w' → Q (.exit 0) a' w') :
    (((rg 2).seq (.cond (.tmp 9) .skip (.exit 0))).seq ((Code.block 1 (rg 3)).seq (rg 4))).wp PP Q a0 w := by
  obtain ⟨ys, m, rest, hyl, t1, hown, hrows, hlf⟩ := hI.row
  have z0 := hI.size
  have d0 := hI.defers
  have t0 := hI.t0
  have t5 := hI.t5
  obtain ⟨B, c, hv⟩ := val hown
  rw [hyl] at hv
  rw [g2]
  refine wp_seq (wp_seq (wp_region_list ?_))
  show wpList _ _ _ [op 2 0, op 2 1, op 2 2, op 2 3] _ _
  refine step_v (d := 6) (v := .int .i64 (i : Int)) (w' := w) (by kernel_rfl) (by kernel_rfl) (run_mv (x := 5) (.inl (by kernel_rfl)) t5) ?_
  have n1 : 6 < a0.tmps.size := by rw [z0]; exact Nat.lt_of_sub_pos (by decide)
  generalize ha1 : a0.put (some 6) (.int .i64 (i : Int)) = a1
  have z1_ : a1.tmps.size = 19 := by rw [← ha1, put_size, z0]
  have d1_ : a1.defers = [] := by rw [← ha1]; exact d0
  have gp1 : ∀ j, j ≠ 6 → a1.tmps.getD j undef = a0.tmps.getD j undef := fun j hj => by rw [← ha1, put_getD n1, if_neg (Ne.symm hj)]
  have h1_6 : a1.tmps.getD 6 undef = .int .i64 (i : Int) := by rw [← ha1, put_getD n1, if_pos rfl]
  have h1_0 : a1.tmps.getD 0 undef = v := (gp1 0 (by decide)).trans t0
  have h1_1 : a1.tmps.getD 1 undef = .int .i64 m := (gp1 1 (by decide)).trans t1
  have h1_5 : a1.tmps.getD 5 undef = .int .i64 (i : Int) := (gp1 5 (by decide)).trans t5
  clear ha1
  refine step_v (d := 7) (v := v) (w' := w) (by kernel_rfl) (by kernel_rfl) (run_mv (x := 0) (.inl (by kernel_rfl)) h1_0) ?_
  have n2 : 7 < a1.tmps.size := by rw [z1_]; exact Nat.lt_of_sub_pos (by decide)
  generalize ha2 : a1.put (some 7) (v) = a2
  have z2_ : a2.tmps.size = 19 := by rw [← ha2, put_size, z1_]
  have d2_ : a2.defers = [] := by rw [← ha2]; exact d1_
  have gp2 : ∀ j, j ≠ 7 → a2.tmps.getD j undef = a1.tmps.getD j undef := fun j hj => by rw [← ha2, put_getD n2, if_neg (Ne.symm hj)]
  have h2_7 : a2.tmps.getD 7 undef = v := by rw [← ha2, put_getD n2, if_pos rfl]
  have h2_0 : a2.tmps.getD 0 undef = v := (gp2 0 (by decide)).trans h1_0
  have h2_1 : a2.tmps.getD 1 undef = .int .i64 m := (gp2 1 (by decide)).trans h1_1
  have h2_5 : a2.tmps.getD 5 undef = .int .i64 (i : Int) := (gp2 5 (by decide)).trans h1_5
  have h2_6 : a2.tmps.getD 6 undef = .int .i64 (i : Int) := (gp2 6 (by decide)).trans h1_6
  clear ha2
  obtain ⟨c2, e2, e21, e22, e23⟩ : ∃ c, (op 2 2).op = .call c ∧ c.callee = .builtin .len ∧ c.args = #[.tmp 7] ∧ c.argTypes[0]? = some 28 := ⟨match (op 2 2).op with | .call c => c | _ => default, by kernel_rfl, by kernel_rfl, by kernel_rfl, by kernel_rfl⟩
  refine step_v (d := 8) (v := .int .i64 (n : Int)) (w' := w) (by kernel_rfl) (by kernel_rfl) (run_len (P := PP) (t := 28) (el := 43) (A := B) (cap := c) e2 e21 e22 e23 (by kernel_rfl) (h2_7.trans hv)) ?_
  have n3 : 8 < a2.tmps.size := by rw [z2_]; exact Nat.lt_of_sub_pos (by decide)
  generalize ha3 : a2.put (some 8) (.int .i64 (n : Int)) = a3
  have z3_ : a3.tmps.size = 19 := by rw [← ha3, put_size, z2_]
  have d3_ : a3.defers = [] := by rw [← ha3]; exact d2_
  have gp3 : ∀ j, j ≠ 8 → a3.tmps.getD j undef = a2.tmps.getD j undef := fun j hj => by rw [← ha3, put_getD n3, if_neg (Ne.symm hj)]
  have h3_8 : a3.tmps.getD 8 undef = .int .i64 (n : Int) := by rw [← ha3, put_getD n3, if_pos rfl]
  have h3_0 : a3.tmps.getD 0 undef = v := (gp3 0 (by decide)).trans h2_0
  have h3_1 : a3.tmps.getD 1 undef = .int .i64 m := (gp3 1 (by decide)).trans h2_1
  have h3_5 : a3.tmps.getD 5 undef = .int .i64 (i : Int) := (gp3 5 (by decide)).trans h2_5
  have h3_6 : a3.tmps.getD 6 undef = .int .i64 (i : Int) := (gp3 6 (by decide)).trans h2_6
  clear ha3
  refine step_v (d := 9) (v := .bool (decide ((i : Int) < (n : Int)))) (w' := w) (by kernel_rfl) (by kernel_rfl) (run_lss (t := 3) (t' := 3) (by kernel_rfl) h3_6 h3_8) ?_
  have n4 : 9 < a3.tmps.size := by rw [z3_]; exact Nat.lt_of_sub_pos (by decide)
  generalize ha4 : a3.put (some 9) (.bool (decide ((i : Int) < (n : Int)))) = a4
  have z4_ : a4.tmps.size = 19 := by rw [← ha4, put_size, z3_]
  have d4_ : a4.defers = [] := by rw [← ha4]; exact d3_
  have gp4 : ∀ j, j ≠ 9 → a4.tmps.getD j undef = a3.tmps.getD j undef := fun j hj => by rw [← ha4, put_getD n4, if_neg (Ne.symm hj)]
  have h4_9 : a4.tmps.getD 9 undef = .bool (decide ((i : Int) < (n : Int))) := by rw [← ha4, put_getD n4, if_pos rfl]
  have h4_0 : a4.tmps.getD 0 undef = v := (gp4 0 (by decide)).trans h3_0
  have h4_1 : a4.tmps.getD 1 undef = .int .i64 m := (gp4 1 (by decide)).trans h3_1
  have h4_5 : a4.tmps.getD 5 undef = .int .i64 (i : Int) := (gp4 5 (by decide)).trans h3_5
  clear ha4
  refine wpList_nil ?_
  show Code.wp _ _ _ _ _
  refine wp_cond h4_9 ?_
  by_cases hi : i < n
  · rw [decide_eq_true (show (i : Int) < (n : Int) by omega)]
    refine wp_skip ?_
    show Code.wp _ _ _ _ _
    refine wp_seq (wp_block ?_)
    rw [g3]
    refine wp_region_list ?_
    show wpList _ _ _ [op 3 0, op 3 1, op 3 2, op 3 3, op 3 4, op 3 5, op 3 6] _ _
    obtain ⟨xs, fps, ho1, hfp, hin⟩ := hown
    obtain ⟨u, hu, hou⟩ := hin i (by omega)
    have hxl : xs.length = n := by rw [ho1.1, hyl]; exact Nat.mul_one n
    obtain ⟨b, cap, cur, hvb, hcap, hmx, hcell⟩ : ∃ b cap cur, v = .slice (some ⟨b, 0, none⟩) n cap ∧ n ≤ cap ∧ cap ≤ maxLen ∧ w.cell? ⟨b, i * 1, none⟩ = some u ∧ cur = 0 := by
      rcases ho1.2 with ⟨e, e0⟩ | ⟨g, cap, cur, e, h3, h4, h5, h6, h7, h8⟩
      · omega
      · refine ⟨g, cap, 0, by rw [e, hyl], by omega, h6, ?_, rfl⟩
        have := ownsW.cellAt (cap := cap) ⟨ho1.1, .inr ⟨g, cap, cur, rfl, h3, h4, h5, h6, h7, h8⟩⟩ i (by rw [hyl]; omega)
        rw [Nat.mul_one, this, hu]
    have hcell := hcell.1
    refine step_v (d := 12) (v := v) (w' := w) (by kernel_rfl) (by kernel_rfl) (run_mv (x := 0) (.inl (by kernel_rfl)) h4_0) ?_
    have n5 : 12 < a4.tmps.size := by rw [z4_]; exact Nat.lt_of_sub_pos (by decide)
    generalize ha5 : a4.put (some 12) (v) = a5
    have z5_ : a5.tmps.size = 19 := by rw [← ha5, put_size, z4_]
    have d5_ : a5.defers = [] := by rw [← ha5]; exact d4_
    have gp5 : ∀ j, j ≠ 12 → a5.tmps.getD j undef = a4.tmps.getD j undef := fun j hj => by rw [← ha5, put_getD n5, if_neg (Ne.symm hj)]
    have h5_12 : a5.tmps.getD 12 undef = v := by rw [← ha5, put_getD n5, if_pos rfl]
    have h5_0 : a5.tmps.getD 0 undef = v := (gp5 0 (by decide)).trans h4_0
    have h5_1 : a5.tmps.getD 1 undef = .int .i64 m := (gp5 1 (by decide)).trans h4_1
    have h5_5 : a5.tmps.getD 5 undef = .int .i64 (i : Int) := (gp5 5 (by decide)).trans h4_5
    clear ha5
    refine step_v (d := 13) (v := .int .i64 (i : Int)) (w' := w) (by kernel_rfl) (by kernel_rfl) (run_mv (x := 5) (.inl (by kernel_rfl)) h5_5) ?_
    have n6 : 13 < a5.tmps.size := by rw [z5_]; exact Nat.lt_of_sub_pos (by decide)
    generalize ha6 : a5.put (some 13) (.int .i64 (i : Int)) = a6
    have z6_ : a6.tmps.size = 19 := by rw [← ha6, put_size, z5_]
    have d6_ : a6.defers = [] := by rw [← ha6]; exact d5_
    have gp6 : ∀ j, j ≠ 13 → a6.tmps.getD j undef = a5.tmps.getD j undef := fun j hj => by rw [← ha6, put_getD n6, if_neg (Ne.symm hj)]
    have h6_13 : a6.tmps.getD 13 undef = .int .i64 (i : Int) := by rw [← ha6, put_getD n6, if_pos rfl]
    have h6_0 : a6.tmps.getD 0 undef = v := (gp6 0 (by decide)).trans h5_0
    have h6_1 : a6.tmps.getD 1 undef = .int .i64 m := (gp6 1 (by decide)).trans h5_1
    have h6_5 : a6.tmps.getD 5 undef = .int .i64 (i : Int) := (gp6 5 (by decide)).trans h5_5
    have h6_12 : a6.tmps.getD 12 undef = v := (gp6 12 (by decide)).trans h5_12
    clear ha6
    refine step_v (d := 14) (v := .pointer (some ⟨b, i * 1, none⟩)) (w' := w) (by kernel_rfl) (by kernel_rfl) (run_ix (P := PP) (t := 28) (el := 43) (by kernel_rfl) (by kernel_rfl) (by kernel_rfl) (h6_12.trans hvb) h6_13 hi) ?_
    have n7 : 14 < a6.tmps.size := by rw [z6_]; exact Nat.lt_of_sub_pos (by decide)
    generalize ha7 : a6.put (some 14) (.pointer (some ⟨b, i * 1, none⟩)) = a7
    have z7_ : a7.tmps.size = 19 := by rw [← ha7, put_size, z6_]
    have d7_ : a7.defers = [] := by rw [← ha7]; exact d6_
    have gp7 : ∀ j, j ≠ 14 → a7.tmps.getD j undef = a6.tmps.getD j undef := fun j hj => by rw [← ha7, put_getD n7, if_neg (Ne.symm hj)]
    have h7_14 : a7.tmps.getD 14 undef = .pointer (some ⟨b, i * 1, none⟩) := by rw [← ha7, put_getD n7, if_pos rfl]
    have h7_0 : a7.tmps.getD 0 undef = v := (gp7 0 (by decide)).trans h6_0
    have h7_1 : a7.tmps.getD 1 undef = .int .i64 m := (gp7 1 (by decide)).trans h6_1
    have h7_5 : a7.tmps.getD 5 undef = .int .i64 (i : Int) := (gp7 5 (by decide)).trans h6_5
    clear ha7
    refine step_v (d := 15) (v := u) (w' := w) (by kernel_rfl) (by kernel_rfl) (run_ld (t := 43) (by kernel_rfl) h7_14 (by kernel_rfl) hcell) ?_
    have n8 : 15 < a7.tmps.size := by rw [z7_]; exact Nat.lt_of_sub_pos (by decide)
    generalize ha8 : a7.put (some 15) (u) = a8
    have z8_ : a8.tmps.size = 19 := by rw [← ha8, put_size, z7_]
    have d8_ : a8.defers = [] := by rw [← ha8]; exact d7_
    have gp8 : ∀ j, j ≠ 15 → a8.tmps.getD j undef = a7.tmps.getD j undef := fun j hj => by rw [← ha8, put_getD n8, if_neg (Ne.symm hj)]
    have h8_15 : a8.tmps.getD 15 undef = u := by rw [← ha8, put_getD n8, if_pos rfl]
    have h8_0 : a8.tmps.getD 0 undef = v := (gp8 0 (by decide)).trans h7_0
    have h8_1 : a8.tmps.getD 1 undef = .int .i64 m := (gp8 1 (by decide)).trans h7_1
    have h8_5 : a8.tmps.getD 5 undef = .int .i64 (i : Int) := (gp8 5 (by decide)).trans h7_5
    clear ha8
    refine step_v (d := 16) (v := .int .i64 m) (w' := w) (by kernel_rfl) (by kernel_rfl) (run_mv (x := 1) (.inl (by kernel_rfl)) h8_1) ?_
    have n9 : 16 < a8.tmps.size := by rw [z8_]; exact Nat.lt_of_sub_pos (by decide)
    generalize ha9 : a8.put (some 16) (.int .i64 m) = a9
    have z9_ : a9.tmps.size = 19 := by rw [← ha9, put_size, z8_]
    have d9_ : a9.defers = [] := by rw [← ha9]; exact d8_
    have gp9 : ∀ j, j ≠ 16 → a9.tmps.getD j undef = a8.tmps.getD j undef := fun j hj => by rw [← ha9, put_getD n9, if_neg (Ne.symm hj)]
    have h9_16 : a9.tmps.getD 16 undef = .int .i64 m := by rw [← ha9, put_getD n9, if_pos rfl]
    have h9_0 : a9.tmps.getD 0 undef = v := (gp9 0 (by decide)).trans h8_0
    have h9_1 : a9.tmps.getD 1 undef = .int .i64 m := (gp9 1 (by decide)).trans h8_1
    have h9_5 : a9.tmps.getD 5 undef = .int .i64 (i : Int) := (gp9 5 (by decide)).trans h8_5
    have h9_15 : a9.tmps.getD 15 undef = u := (gp9 15 (by decide)).trans h8_15
    clear ha9
    obtain ⟨c6, e6, e61, e62⟩ : ∃ c, (op 3 5).op = .call c ∧ c.callee = .value (.func 24) ∧ c.args = #[.tmp 15, .tmp 16] := ⟨match (op 3 5).op with | .call c => c | _ => default, by kernel_rfl, by kernel_rfl, by kernel_rfl⟩
    refine step_c (d := 17) (by kernel_rfl) (by kernel_rfl) (run_call2 e6 e61 e62 (by kernel_rfl) h9_15 h9_16) ?_
    have hd : ys.drop i = ys[i] :: ys.drop (i + 1) := List.drop_eq_getElem_cons (by omega)
    have hgd : ys.getD i default = ys[i] := by simp [List.getD_eq_getElem?_getD, show i < ys.length by omega]
    rw [hgd] at hou
    rw [hd] at hrows
    simp only [rows, Option.bind_eq_some_iff, Option.some.injEq, Prod.mk.injEq] at hrows
    obtain ⟨⟨m', y'⟩, hf, ⟨mq, rest'⟩, hrest, hmq, hr'⟩ := hrows
    simp only at hmq hr' hrest
    subst hmq
    have hH : (eMP f).H (.row 30 .s4 ys[i]) [.v (.int .i64 m)] = some (.one (.v (.int .i64 m')), .row 30 .s4 y') := by
      have : (eMP f).H (.row 30 .s4 ys[i]) [.v (.int .i64 m)] = (match f ys[i] m with | some b => some (.one (.v (.int .i64 b.1)), .row 30 .s4 b.2) | none => none) := by kernel_rfl
      rw [this, hf]
    have hou0 := hou
    obtain ⟨us, hus, hfu, _⟩ := hou0
    have flt : ∀ j, j < n → ∀ x ∈ fps j, x ∈ fp := fun j hj x hx => by rw [hfp]; exact List.mem_append_right _ (mem_fps (by omega) hx)
    have fsz : ∀ x ∈ fp, x < w.heap.size := fun x hx => Nat.lt_of_lt_of_le (hlt0 x hx) hI.chg.size
    have hnd' := hnd
    rw [hfp, List.nodup_append] at hnd'
    obtain ⟨f1, f2⟩ := flat_nodup hnd'.2.1
    refine (hC.runs (.row 30 .s4 ys[i]) [.v (.int .i64 m)] _ _ hH u #[.int .i64 m] w (fun _ => False) { v := u, own := u.ownBlock, t := 30, z := 4, n := ys[i].length } (fun _ h => h.elim) rfl hou.box rfl (fun _ _ h => h) (fun x q hx => ?_) (fun j vv y h1 h2 => ?_)).mono fun e w1 ⟨v1, he, hB, hbx, _, hret⟩ => ⟨v1, he, ?_⟩
    · cases q with
      | one => exact fsz x (flt i hi x (by rw [hfu]; exact mem_own.2 hx))
      | fro => exact hx.elim
      | deep => cases hx
    · cases j with
      | zero => simp at h1 h2; subst h1 h2; exact .v _
      | succ j => simp at h1
    have hv1 := rep_v_inv (show Rep w1 _ v1 (.v (.int .i64 m')) from hret)
    subst hv1
    have n10 : 17 < a9.tmps.size := by rw [z9_]; exact Nat.lt_of_sub_pos (by decide)
    generalize ha10 : a9.put (some 17) (.int .i64 m') = a10
    have z10_ : a10.tmps.size = 19 := by rw [← ha10, put_size, z9_]
    have d10_ : a10.defers = [] := by rw [← ha10]; exact d9_
    have gp10 : ∀ j, j ≠ 17 → a10.tmps.getD j undef = a9.tmps.getD j undef := fun j hj => by rw [← ha10, put_getD n10, if_neg (Ne.symm hj)]
    have h10_17 : a10.tmps.getD 17 undef = .int .i64 m' := by rw [← ha10, put_getD n10, if_pos rfl]
    have h10_0 : a10.tmps.getD 0 undef = v := (gp10 0 (by decide)).trans h9_0
    have h10_5 : a10.tmps.getD 5 undef = .int .i64 (i : Int) := (gp10 5 (by decide)).trans h9_5
    clear ha10
    refine step_v (d := 1) (v := .int .i64 m') (w' := w1) (by kernel_rfl) (by kernel_rfl) (run_mv (x := 17) (.inr (by kernel_rfl)) h10_17) ?_
    have n11 : 1 < a10.tmps.size := by rw [z10_]; exact Nat.lt_of_sub_pos (by decide)
    generalize ha11 : a10.put (some 1) (.int .i64 m') = a11
    have z11_ : a11.tmps.size = 19 := by rw [← ha11, put_size, z10_]
    have d11_ : a11.defers = [] := by rw [← ha11]; exact d10_
    have gp11 : ∀ j, j ≠ 1 → a11.tmps.getD j undef = a10.tmps.getD j undef := fun j hj => by rw [← ha11, put_getD n11, if_neg (Ne.symm hj)]
    have h11_1 : a11.tmps.getD 1 undef = .int .i64 m' := by rw [← ha11, put_getD n11, if_pos rfl]
    have h11_0 : a11.tmps.getD 0 undef = v := (gp11 0 (by decide)).trans h10_0
    have h11_5 : a11.tmps.getD 5 undef = .int .i64 (i : Int) := (gp11 5 (by decide)).trans h10_5
    clear ha11
    refine wpList_nil ?_
    show Code.wp _ _ _ _ _
    rw [g4]
    refine wp_region_list ?_
    show wpList _ _ _ [op 4 0, op 4 1, op 4 2] _ _
    refine step_v (d := 10) (v := .int .i64 (i : Int)) (w' := w1) (by kernel_rfl) (by kernel_rfl) (run_mv (x := 5) (.inl (by kernel_rfl)) h11_5) ?_
    have n12 : 10 < a11.tmps.size := by rw [z11_]; exact Nat.lt_of_sub_pos (by decide)
    generalize ha12 : a11.put (some 10) (.int .i64 (i : Int)) = a12
    have z12_ : a12.tmps.size = 19 := by rw [← ha12, put_size, z11_]
    have d12_ : a12.defers = [] := by rw [← ha12]; exact d11_
    have gp12 : ∀ j, j ≠ 10 → a12.tmps.getD j undef = a11.tmps.getD j undef := fun j hj => by rw [← ha12, put_getD n12, if_neg (Ne.symm hj)]
    have h12_10 : a12.tmps.getD 10 undef = .int .i64 (i : Int) := by rw [← ha12, put_getD n12, if_pos rfl]
    have h12_0 : a12.tmps.getD 0 undef = v := (gp12 0 (by decide)).trans h11_0
    have h12_1 : a12.tmps.getD 1 undef = .int .i64 m' := (gp12 1 (by decide)).trans h11_1
    clear ha12
    refine step_v (d := 11) (v := .int .i64 (W ((i : Int) + 1))) (w' := w1) (by kernel_rfl) (by kernel_rfl) (run_inc (t := 3) (t' := 3) (by kernel_rfl) h12_10) ?_
    have n13 : 11 < a12.tmps.size := by rw [z12_]; exact Nat.lt_of_sub_pos (by decide)
    generalize ha13 : a12.put (some 11) (.int .i64 (W ((i : Int) + 1))) = a13
    have z13_ : a13.tmps.size = 19 := by rw [← ha13, put_size, z12_]
    have d13_ : a13.defers = [] := by rw [← ha13]; exact d12_
    have gp13 : ∀ j, j ≠ 11 → a13.tmps.getD j undef = a12.tmps.getD j undef := fun j hj => by rw [← ha13, put_getD n13, if_neg (Ne.symm hj)]
    have h13_11 : a13.tmps.getD 11 undef = .int .i64 (W ((i : Int) + 1)) := by rw [← ha13, put_getD n13, if_pos rfl]
    have h13_0 : a13.tmps.getD 0 undef = v := (gp13 0 (by decide)).trans h12_0
    have h13_1 : a13.tmps.getD 1 undef = .int .i64 m' := (gp13 1 (by decide)).trans h12_1
    clear ha13
    refine step_v (d := 5) (v := .int .i64 (W ((i : Int) + 1))) (w' := w1) (by kernel_rfl) (by kernel_rfl) (run_mv (x := 11) (.inr (by kernel_rfl)) h13_11) ?_
    have n14 : 5 < a13.tmps.size := by rw [z13_]; exact Nat.lt_of_sub_pos (by decide)
    generalize ha14 : a13.put (some 5) (.int .i64 (W ((i : Int) + 1))) = a14
    have z14_ : a14.tmps.size = 19 := by rw [← ha14, put_size, z13_]
    have d14_ : a14.defers = [] := by rw [← ha14]; exact d13_
    have gp14 : ∀ j, j ≠ 5 → a14.tmps.getD j undef = a13.tmps.getD j undef := fun j hj => by rw [← ha14, put_getD n14, if_neg (Ne.symm hj)]
    have h14_5 : a14.tmps.getD 5 undef = .int .i64 (W ((i : Int) + 1)) := by rw [← ha14, put_getD n14, if_pos rfl]
    have h14_0 : a14.tmps.getD 0 undef = v := (gp14 0 (by decide)).trans h13_0
    have h14_1 : a14.tmps.getD 1 undef = .int .i64 m' := (gp14 1 (by decide)).trans h13_1
    clear ha14
    refine wpList_nil (hn _ _ hi ?_)
    obtain ⟨ho2, hko⟩ := row_own hbx
    have hyl' : y'.length = ys[i].length := hbx.2.2.1.symm
    have same : ∀ x ∈ fp, x ∉ fps i → w1.heap[x]? = w.heap[x]? := fun x hx hne => hB.block x (fsz x hx) fun hxo => hne (by rw [hfu]; exact mem_own.2 hxo)
    have bl : ∀ j, j < n → j ≠ i → ∀ x ∈ fps j, x ∉ fps i := fun j hj hji x hx hx' => hji (f2 j i x (by omega) (by omega) hx hx')
    refine ⟨by omega, z14_, d14_, h14_0, ?_, ⟨ys.set i y', m', rest', by rw [List.length_set]; exact hyl, h14_1, ⟨xs, fps, ?_, ?_, fun j hj => ?_⟩, ?_, ?_⟩, ?_⟩
    · rw [h14_5, tsol.S.wpos (by have : cap ≤ maxLen := hmx; unfold maxLen at this; omega)]
    · rw [List.length_set]
      exact own_of _ w w1 _ _ _ _ _ ho1 (fun x hx => same x (by rw [hfp]; exact List.mem_append_left _ (mem_own.2 hx)) fun hx' => hnd'.2.2 x (mem_own.2 hx) x (mem_fps (by omega) hx') rfl)
    · rw [List.length_set]; exact hfp
    · rw [List.length_set] at hj
      by_cases hji : j = i
      · subst hji
        refine ⟨u, hu, ?_⟩
        have e : (ys.set j y').getD j default = y' := by simp [List.getD_eq_getElem?_getD, hj]
        rw [e, hfu]; exact ho2
      · obtain ⟨u2, hu2, ho3⟩ := hin j hj
        refine ⟨u2, hu2, ?_⟩
        have e : (ys.set i y').getD j default = ys.getD j default := by simp [List.getD_eq_getElem?_getD, List.getElem?_set, Ne.symm hji]
        rw [e]
        exact ho3.mono fun x hx => same x (flt j (by omega) x hx) (bl j (by omega) hji x hx)
    · rw [List.drop_set_of_lt (Nat.lt_succ_self i)]; exact hrest
    · rw [hlf, ← hr', List.take_succ_eq_append_getElem (show i < (ys.set i y').length by rw [List.length_set]; omega)]
      simp [List.take_set_of_le]
    · refine ⟨hB.os.trans hI.chg.os, hB.tape.trans hI.chg.tape, hB.output.trans hI.chg.output, Nat.le_trans hI.chg.size hB.size, fun x hx hne => ?_, Nat.le_trans hI.chg.drawn hB.drawn⟩
      exact (hB.block x (Nat.lt_of_lt_of_le hx hI.chg.size) fun hxo => hne (flt i hi x (by rw [hfu]; exact mem_own.2 hxo))).trans (hI.chg.block x hx hne)
  · rw [decide_eq_false (show ¬ (i : Int) < (n : Int) by omega)]
    have hie : i = n := by have := hI.le; omega
    subst hie
    refine wp_exit (hx _ _ ⟨Nat.le_refl _, z4_, d4_, h4_0, h4_5, ⟨ys, m, rest, hyl, h4_1, hown, hrows, hlf⟩, hI.chg⟩)
theorem ok {f : List S4 → Int → Option (Int × List S4)} (hC : FunS PP 24 (eMP f).sk (eMP f).H) {w0 : World} {v : Value} {fp : List Nat} {l lf : List (List S4)} {m0 mf : Int} (hown : OwnR 43 30 w0 fp v l) (hnd : fp.Nodup) (hlt : ∀ b ∈ fp, b < w0.heap.size) (hr : rows f l m0 = some (mf, lf)) :
    Calls PP 11 #[v, .int .i64 m0] w0 fun e w' => e = .returned (.int .i64 mf) ∧ BelowX ⟨w0, fun b => b ∈ fp, fun _ => False, none⟩ w' ∧ OwnR 43 30 w' fp v lf := by
  refine calls_of_wp Try.func11 (c := bd) (by kernel_rfl) ?_
  rw [shape]
  generalize hb0 : ({ tmps := #[v, .int .i64 m0] ++ Array.replicate (Try.f11.ntmps - (#[v, .int .i64 m0] : Array Value).size) undef, defers := [] } : Act) = a0
  have z0 : a0.tmps.size = 19 := by rw [← hb0]; kernel_rfl
  have d0 : a0.defers = [] := by rw [← hb0]
  have t0 : a0.tmps.getD 0 undef = v := by rw [← hb0]; kernel_rfl
  have t1 : a0.tmps.getD 1 undef = .int .i64 m0 := by rw [← hb0]; kernel_rfl
  clear hb0
  rw [g0]
  refine wp_seq (wp_region_list ?_)
  show wpList _ _ _ [op 0 0] _ _
  refine step_v (d := 4) (v := .int .i64 0) (w' := w0) (by kernel_rfl) (by kernel_rfl) (by kernel_rfl) ?_
  have n1 : 4 < a0.tmps.size := by rw [z0]; exact Nat.lt_of_sub_pos (by decide)
  generalize ha1 : a0.put (some 4) (.int .i64 0) = a1
  have z1_ : a1.tmps.size = 19 := by rw [← ha1, put_size, z0]
  have d1_ : a1.defers = [] := by rw [← ha1]; exact d0
  have gp1 : ∀ j, j ≠ 4 → a1.tmps.getD j undef = a0.tmps.getD j undef := fun j hj => by rw [← ha1, put_getD n1, if_neg (Ne.symm hj)]
  have h1_4 : a1.tmps.getD 4 undef = .int .i64 0 := by rw [← ha1, put_getD n1, if_pos rfl]
  have h1_0 : a1.tmps.getD 0 undef = v := (gp1 0 (by decide)).trans t0
  have h1_1 : a1.tmps.getD 1 undef = .int .i64 m0 := (gp1 1 (by decide)).trans t1
  clear ha1
  refine wpList_nil ?_
  show Code.wp _ _ _ _ _
  rw [g1]
  refine wp_seq (wp_seq (wp_region_list ?_))
  show wpList _ _ _ [op 1 0] _ _
  refine step_v (d := 5) (v := .int .i64 0) (w' := w0) (by kernel_rfl) (by kernel_rfl) (by kernel_rfl) ?_
  have n2 : 5 < a1.tmps.size := by rw [z1_]; exact Nat.lt_of_sub_pos (by decide)
  generalize ha2 : a1.put (some 5) (.int .i64 0) = a2
  have z2_ : a2.tmps.size = 19 := by rw [← ha2, put_size, z1_]
  have d2_ : a2.defers = [] := by rw [← ha2]; exact d1_
  have gp2 : ∀ j, j ≠ 5 → a2.tmps.getD j undef = a1.tmps.getD j undef := fun j hj => by rw [← ha2, put_getD n2, if_neg (Ne.symm hj)]
  have h2_5 : a2.tmps.getD 5 undef = .int .i64 0 := by rw [← ha2, put_getD n2, if_pos rfl]
  have h2_0 : a2.tmps.getD 0 undef = v := (gp2 0 (by decide)).trans h1_0
  have h2_1 : a2.tmps.getD 1 undef = .int .i64 m0 := (gp2 1 (by decide)).trans h1_1
  clear ha2
  refine wpList_nil ?_
  show Code.wp _ _ _ _ _
  refine wp_block ?_
  have hI : TInv f w0 v l.length fp lf mf 0 a2 w0 := ⟨Nat.zero_le _, z2_, d2_, h2_0, h2_5, ⟨l, m0, lf, rfl, h2_1, hown, by rw [List.drop_zero]; exact hr, by simp⟩, ⟨rfl, rfl, rfl, Nat.le_refl _, fun _ _ _ => rfl, Nat.le_refl _⟩⟩
  refine wp_loop (fun a' w' => ∃ i, TInv f w0 v l.length fp lf mf i a' w') (fun a' _ => match a'.tmps.getD 5 undef with | .int _ n => l.length - n.toNat | _ => 0) ⟨0, hI⟩ fun a4 w4 ⟨i, hI4⟩ => ?_
  refine round hC hnd hlt hI4 (fun a5 w5 hi hI5 => ?_) fun a5 w5 hI5 => ?_
  · refine ⟨⟨i + 1, hI5⟩, ?_⟩
    simp only [hI4.t5, hI5.t5, Int.toNat_natCast]
    omega
  · show ((rg 5).seq .ret).wp _ _ a5 w5
    obtain ⟨ys, m, rest, hyl, t1, hown5, hrows, hlf⟩ := hI5.row
    rw [List.drop_of_length_le (Nat.le_of_eq hyl)] at hrows
    simp only [rows, Option.some.injEq, Prod.mk.injEq] at hrows
    obtain ⟨rfl, rfl⟩ := hrows
    have hys : lf = ys := by rw [hlf, List.append_nil, List.take_of_length_le (Nat.le_of_eq hyl)]
    subst hys
    have z0 := hI5.size
    have d0 := hI5.defers
    rw [g5]
    refine wp_seq (wp_region_list ?_)
    show wpList _ _ _ [op 5 0, op 5 1] _ _
    refine step_v (d := 18) (v := .int .i64 m) (w' := w5) (by kernel_rfl) (by kernel_rfl) (run_mv (x := 1) (.inl (by kernel_rfl)) t1) ?_
    have n11 : 18 < a5.tmps.size := by rw [z0]; exact Nat.lt_of_sub_pos (by decide)
    generalize ha11 : a5.put (some 18) (.int .i64 m) = a11
    have z11_ : a11.tmps.size = 19 := by rw [← ha11, put_size, z0]
    have d11_ : a11.defers = [] := by rw [← ha11]; exact d0
    have gp11 : ∀ j, j ≠ 18 → a11.tmps.getD j undef = a5.tmps.getD j undef := fun j hj => by rw [← ha11, put_getD n11, if_neg (Ne.symm hj)]
    have h11_18 : a11.tmps.getD 18 undef = .int .i64 m := by rw [← ha11, put_getD n11, if_pos rfl]
    have h11_1 : a11.tmps.getD 1 undef = .int .i64 m := (gp11 1 (by decide)).trans t1
    clear ha11
    refine step_v (d := 4) (v := .int .i64 m) (w' := w5) (by kernel_rfl) (by kernel_rfl) (run_mv (x := 18) (.inr (by kernel_rfl)) h11_18) ?_
    have n12 : 4 < a11.tmps.size := by rw [z11_]; exact Nat.lt_of_sub_pos (by decide)
    generalize ha12 : a11.put (some 4) (.int .i64 m) = a12
    have z12_ : a12.tmps.size = 19 := by rw [← ha12, put_size, z11_]
    have d12_ : a12.defers = [] := by rw [← ha12]; exact d11_
    have gp12 : ∀ j, j ≠ 4 → a12.tmps.getD j undef = a11.tmps.getD j undef := fun j hj => by rw [← ha12, put_getD n12, if_neg (Ne.symm hj)]
    have h12_4 : a12.tmps.getD 4 undef = .int .i64 m := by rw [← ha12, put_getD n12, if_pos rfl]
    have h12_1 : a12.tmps.getD 1 undef = .int .i64 m := (gp12 1 (by decide)).trans h11_1
    have h12_18 : a12.tmps.getD 18 undef = .int .i64 m := (gp12 18 (by decide)).trans h11_18
    clear ha12
    refine wpList_nil (wp_ret ⟨d12_, .int .i64 m, res1 (by kernel_rfl) h12_4, rfl, hI5.chg, hown5⟩)
/-- the promise. -/
noncomputable def eMR (g : List (List S4) → Int → Option (Int × List (List S4))) : FS := { σ := List (List S4), α := Int × Unit, β := Int, sk := .row, st := xRs 43 30, args := lCons (aI .i64) lNil, ret := rOne (aI .i64), f := fun s p => g s p.1 }
theorem okW {f : List S4 → Int → Option (Int × List S4)} (hC : FunS PP 24 (eMP f).sk (eMP f).H) : FunS PP 11 (eMR (rows f)).sk (eMR (rows f)).H where
  can := by kernel_rfl
  runs := fun bx ar rt bx' hH v0 vs w A kb hA hn hbx hv0 hown hlt hrep => by
    unfold FS.H at hH
    split at hH
    · rename_i s p hs hp
      split at hH
      · rename_i b hb
        cases hH
        obtain ⟨m, ⟨⟩⟩ := p
        have hbe : bx = .rs 43 30 s := by
          unfold eMR xRs at hs
          simp only at hs
          split at hs
          · split at hs
            · rename_i e; cases hs; obtain ⟨rfl, rfl⟩ := e; rfl
            · cases hs
          · cases hs
        subst hbe
        obtain ⟨hlen, hval⟩ := (lCons (aI .i64) lNil).ok ar _ hp
        have h1 : ar.length = 1 := hlen
        have hvs : vs.size = 1 := hn.trans h1
        have hr := hval 0 ar[0] (.v (.int .i64 m)) (by simp [h1]) rfl w A vs[0] (hrep 0 _ _ (by simp [hvs]) (by simp [h1]))
        have e : vs = #[.int .i64 m] := by
          apply Array.ext_getElem?
          intro i
          match i with
          | 0 => simp [hvs, rep_v_inv hr]
          | i + 1 => simp [hvs]
        subst e
        have hv0 : v0 = kb.v := hv0
        subst hv0
        exact (ok hC hbx.1 hbx.2 (fun b hb => hlt b .deep hb) hb).mono fun e w' ⟨he, hB, ho⟩ => ⟨_, he, ⟨hB.os, hB.tape, hB.output, hB.size, fun x hx hne => hB.block x hx hne, hB.drawn⟩, ⟨ho, hbx.2⟩, .inl rfl, .v _⟩
      · cases hH
    · cases hH
end M

/-! ### the copy -/
namespace C
noncomputable def bd : Code := match Try.f33.body with | some c => c | none => .skip
noncomputable def r0 : Code := match bd with | .seq a _ => a | _ => .skip
noncomputable def r1 : Code := match bd with | .seq _ (.seq (.seq a _) _) => a | _ => .skip
noncomputable def r2 : Code := match bd with | .seq _ (.seq (.seq _ (.cond _ (.seq a _) _)) _) => a | _ => .skip
noncomputable def r3 : Code := match bd with | .seq _ (.seq _ (.seq a _)) => a | _ => .skip
noncomputable def op (r : Code) (j : Nat) : Oper := match r with | .region _ ops _ => ops.getD j dOper | _ => dOper
theorem shape : bd = r0.seq ((r1.seq (.cond (.tmp 4) (r2.seq .ret) .skip)).seq (r3.seq .ret)) := by kernel_rfl
theorem g0 : r0 = .region 0 #[op r0 0] false := by kernel_rfl
theorem g1 : r1 = .region 1 #[op r1 0, op r1 1] false := by kernel_rfl
theorem g2 : r2 = .region 2 #[op r2 0] false := by kernel_rfl
theorem g3 : r3 = .region 3 #[op r3 0, op r3 1, op r3 2, op r3 3] false := by kernel_rfl
noncomputable def cx0 (ρ : Type) : Cx ρ := mkCx PP [] []
def stA (l : List S4) : S2 := ([(0, .p (.sl .s4 l))], [])
def kA (st : S2) : Option (List S4) := match get st.1 2 with
  | .osl id => (match getB st.2 id with | some (some (.row t .s4 m)) => (match Nat.beq t 30 with | true => some m | false => none) | _ => none)
  | _ => none
theorem eA (l : List S4) : evCode (cx0 _) r3 (stA l) (tsol.S.nrm kA) = if lt47 (0 + l.length) = true then some ([] ++ l) else none := by kernel_rfl
theorem lo : LoopsOk PP 8 (cx0 (List S4)) r3 := by rw [g3]; trivial
theorem ok {l : List S4} (h47 : lt47 l.length = true) {w : World} {A : Nat → Prop} {v : Value} (hA : ∀ b, A b → b < w.heap.size) (hv : Rep w A v (.sl .s4 l)) : Calls PP 33 #[v] w fun e w' => ∃ u, e = .returned u ∧ BelowD w w' ∧ RetRep w w' A u (.own 30 .s4 l) := by
  refine calls_of_wp Try.func33 (c := bd) (by kernel_rfl) ?_
  rw [shape]
  generalize hb0 : ({ tmps := #[v] ++ Array.replicate (Try.f33.ntmps - (#[v] : Array Value).size) undef, defers := [] } : Act) = a0
  have z0 : a0.tmps.size = 8 := by rw [← hb0]; kernel_rfl
  have d0 : a0.defers = [] := by rw [← hb0]
  have t0 : a0.tmps.getD 0 undef = v := by rw [← hb0]; kernel_rfl
  clear hb0
  obtain ⟨B, c, hvv, hle, hnil⟩ : ∃ B c, v = .slice B l.length c ∧ l.length ≤ c ∧ (B = none → c = 0) := by
    generalize hq : l = q at hv
    cases hv with
    | sl B cap _ _ _ hcap hnil => exact ⟨B, cap, rfl, hcap, hnil⟩
  rw [g0]
  refine wp_seq (wp_region_list ?_)
  show wpList _ _ _ [op r0 0] _ _
  refine step_v (d := 2) (v := .slice none 0 0) (w' := w) (by kernel_rfl) (by kernel_rfl) (by kernel_rfl) ?_
  have n1 : 2 < a0.tmps.size := by rw [z0]; exact Nat.lt_of_sub_pos (by decide)
  generalize ha1 : a0.put (some 2) (.slice none 0 0) = a1
  have z1_ : a1.tmps.size = 8 := by rw [← ha1, put_size, z0]
  have d1_ : a1.defers = [] := by rw [← ha1]; exact d0
  have gp1 : ∀ j, j ≠ 2 → a1.tmps.getD j undef = a0.tmps.getD j undef := fun j hj => by rw [← ha1, put_getD n1, if_neg (Ne.symm hj)]
  have h1_2 : a1.tmps.getD 2 undef = .slice none 0 0 := by rw [← ha1, put_getD n1, if_pos rfl]
  have h1_0 : a1.tmps.getD 0 undef = v := (gp1 0 (by decide)).trans t0
  clear ha1
  refine wpList_nil ?_
  show Code.wp _ _ _ _ _
  rw [g1]
  refine wp_seq (wp_seq (wp_region_list ?_))
  show wpList _ _ _ [op r1 0, op r1 1] _ _
  refine step_v (d := 3) (v := v) (w' := w) (by kernel_rfl) (by kernel_rfl) (run_mv (x := 0) (.inl (by kernel_rfl)) h1_0) ?_
  have n2 : 3 < a1.tmps.size := by rw [z1_]; exact Nat.lt_of_sub_pos (by decide)
  generalize ha2 : a1.put (some 3) (v) = a2
  have z2_ : a2.tmps.size = 8 := by rw [← ha2, put_size, z1_]
  have d2_ : a2.defers = [] := by rw [← ha2]; exact d1_
  have gp2 : ∀ j, j ≠ 3 → a2.tmps.getD j undef = a1.tmps.getD j undef := fun j hj => by rw [← ha2, put_getD n2, if_neg (Ne.symm hj)]
  have h2_3 : a2.tmps.getD 3 undef = v := by rw [← ha2, put_getD n2, if_pos rfl]
  have h2_0 : a2.tmps.getD 0 undef = v := (gp2 0 (by decide)).trans h1_0
  have h2_2 : a2.tmps.getD 2 undef = .slice none 0 0 := (gp2 2 (by decide)).trans h1_2
  clear ha2
  refine step_v (d := 4) (v := .bool B.isNone) (w' := w) (by kernel_rfl) (by kernel_rfl) (run_nil (P := PP) (t := 43) (t' := 43) (el := 30) (by kernel_rfl) (by kernel_rfl) (h2_3.trans hvv)) ?_
  have n3 : 4 < a2.tmps.size := by rw [z2_]; exact Nat.lt_of_sub_pos (by decide)
  generalize ha3 : a2.put (some 4) (.bool B.isNone) = a3
  have z3_ : a3.tmps.size = 8 := by rw [← ha3, put_size, z2_]
  have d3_ : a3.defers = [] := by rw [← ha3]; exact d2_
  have gp3 : ∀ j, j ≠ 4 → a3.tmps.getD j undef = a2.tmps.getD j undef := fun j hj => by rw [← ha3, put_getD n3, if_neg (Ne.symm hj)]
  have h3_4 : a3.tmps.getD 4 undef = .bool B.isNone := by rw [← ha3, put_getD n3, if_pos rfl]
  have h3_0 : a3.tmps.getD 0 undef = v := (gp3 0 (by decide)).trans h2_0
  clear ha3
  refine wpList_nil ?_
  show Code.wp _ _ _ _ _
  refine wp_cond h3_4 ?_
  cases B with
  | none =>
    have hc : c = 0 := hnil rfl
    subst hc
    have hl : l = [] := List.eq_nil_of_length_eq_zero (by omega)
    subst hl
    show Code.wp _ (r2.seq .ret) _ _ _
    rw [g2]
    refine wp_seq (wp_region_list ?_)
    show wpList _ _ _ [op r2 0] _ _
    refine step_v (d := 2) (v := .slice none 0 0) (w' := w) (by kernel_rfl) (by kernel_rfl) (by kernel_rfl) ?_
    have n4 : 2 < a3.tmps.size := by rw [z3_]; exact Nat.lt_of_sub_pos (by decide)
    generalize ha4 : a3.put (some 2) (.slice none 0 0) = a4
    have z4_ : a4.tmps.size = 8 := by rw [← ha4, put_size, z3_]
    have d4_ : a4.defers = [] := by rw [← ha4]; exact d3_
    have gp4 : ∀ j, j ≠ 2 → a4.tmps.getD j undef = a3.tmps.getD j undef := fun j hj => by rw [← ha4, put_getD n4, if_neg (Ne.symm hj)]
    have h4_2 : a4.tmps.getD 2 undef = .slice none 0 0 := by rw [← ha4, put_getD n4, if_pos rfl]
    have h4_0 : a4.tmps.getD 0 undef = v := (gp4 0 (by decide)).trans h3_0
    clear ha4
    refine wpList_nil (wp_ret ⟨d4_, .slice none 0 0, res1 (by kernel_rfl) h4_2, _, rfl, ⟨⟨rfl, rfl, rfl, Nat.le_refl _, fun _ _ => rfl⟩, Nat.le_refl _⟩, [], ownsW_nil _ _ _ _, fun j c hj => absurd hj (Nat.not_lt_zero j)⟩)
  | some ad =>
    show Code.wp _ .skip _ _ _
    refine wp_skip ?_
    show Code.wp _ _ _ _ _
    have hR : R ⟨w, fun _ => False, A, none⟩ 8 (get (stA l).1) (getB (stA l).2) a3 w := by
      refine ⟨A, fun _ => none, ⟨⟨rfl, rfl, rfl, Nat.le_refl _, fun _ _ _ => rfl, Nat.le_refl _⟩, fun s => ?_, fun id x hx => (by cases hx), fun id id' x x' bb k1 k2 hx => (by cases hx), fun _ _ => rfl, fun b hb => .inl hb, hA, fun id k b q hk => (by cases hk), d3_, z3_, fun _ h => (by cases h), fun _ _ _ hx => (by cases hx)⟩⟩
      unfold stA
      simp only [Ev.get]
      cases hs0 : Nat.beq 0 s with
      | true => have := beq_iff.1 hs0; subst this; show Rep _ _ _ _; rw [h3_0]; exact hv
      | false => trivial
    have hE := eA l
    rw [if_pos (by rw [Nat.zero_add]; exact h47), List.nil_append] at hE
    obtain ⟨e, st', hk, hto⟩ := evCode_ok (P := PP) rfl mixed (callsOk (cs := []) (ls := []) trivial) r3 (stA l) (tsol.S.nrm kA) (by kernel_rfl) lo hE
    obtain ⟨rfl, hk2⟩ := tsol.S.nrm_some hk
    clear hk
    refine wp_seq (hto _ _ _ _ hR fun a9 w9 hR9 => ?_)
    obtain ⟨ro, β, h0⟩ := hR9
    unfold kA at hk2
    show Code.wp _ _ _ _ _
    split at hk2
    · rename_i id hid
      split at hk2
      · rename_i t m hb
        split at hk2
        · rename_i ht
          cases hk2
          have ht := beq_iff.1 ht
          subst ht
          have s2 := h0.slots 2
          rw [hid] at s2
          obtain ⟨k, hkk, e2⟩ := s2
          obtain ⟨k', hk', ⟨htt, hz, hn, hown, xs, hrow, hcells⟩, ho⟩ := h0.box _ _ hb
          rw [hkk] at hk'; cases hk'
          refine wp_ret ⟨h0.defers, _, res1 (by kernel_rfl) e2, _, rfl, tsol.ofX h0.below, xs, ?_, fun j c hj hc => ?_⟩
          · rw [← hn, ← htt]
            exact own_rebase hrow fun b hb => ((ho b (hown.trans hb)).1.resolve_right fun h => h)
          · obtain ⟨x, hx, hr⟩ := hcells j c hj hc
            exact ⟨x, hx, rep_plain hr (plain_cell rfl _ _)⟩
        · cases hk2
      · cases hk2
    · cases hk2
end C
end ck
noncomputable def slices_Clone.f (k : Nat) (l : List S4) : Option (List S4) := if lt47 l.length = true then some l else none
noncomputable def slices_Clone.e (k : Nat) : FE := { α := List S4 × Unit, β := List S4, args := lCons (aSl .s4) lNil, ret := rOwn 30 .s4, f := fun p => slices_Clone.f k p.1 }
theorem slices_Clone.okW (k : Nat) : Fun Try.prog 33 (slices_Clone.e k).G where
  can := by kernel_rfl
  runs := fun ar rt hG vs w A hA hn hrep => by
    unfold FE.G at hG
    split at hG
    · rename_i p hp
      split at hG
      · rename_i t ht
        cases hG
        obtain ⟨t0, ⟨⟩⟩ := p
        unfold slices_Clone.e slices_Clone.f at ht
        simp only at ht
        split at ht
        · rename_i hok
          cases ht
          obtain ⟨hlen, hval⟩ := (slices_Clone.e k).args.ok ar _ hp
          have h1 : ar.length = 1 := hlen
          have hvs : vs.size = 1 := hn.trans h1
          have e : vs = #[vs[0]] := by
            apply Array.ext_getElem?
            intro i
            match i with
            | 0 => simp [hvs]
            | i + 1 => simp [hvs]
          have hr := hval 0 ar[0] (.sl .s4 t) (by simp [h1]) rfl w A vs[0] (hrep 0 _ _ (by simp [hvs]) (by simp [h1]))
          rw [e]
          exact ck.C.ok hok hA hr
        · cases ht
      · cases hG
    · cases hG
end Go.Proofs.Ytalkkenkeilmpaa.G
