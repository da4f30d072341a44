-- Printed by a program of the session (mkprinter.py, over the kit's print); Lean checks it.
import Derived.Test.YtndedincanmaeaaCp
import Derived.Test.YtndedincanmaeaaPrint0
namespace Go.Proofs.Ytndedincanmaeaa.Print
open Go.RowKit Go.Proofs.YtndedincanmaeaaW.PrintWords Go.Proofs.YtndedincanmaeaaW.PrintLast Go.Proofs.Ytndedincanmaeaa.Cp
set_option linter.unusedVariables false
set_option linter.unusedSimpArgs false

theorem eqA_items {P : Program} {d e : Nat} {w : World} {xs ys : Array Value} (ha : ∀ w, (isAgg e).run P w = .ok false w) (hq : ∀ (w : World) (a b : Int), (Op.equalIn (d + 1) e (.int .i64 a) (.int .i64 b)).run P w = .ok (a == b) w) :
  ∀ (L : List (Nat × Int × Int)), (∀ p ∈ L, xs[p.1]? = some (.int .i64 p.2.1) ∧ ys[p.1]? = some (.int .i64 p.2.2)) → (Op.eqItems (d + 1) e 1 xs ys (L.map (·.1))).run P w = .ok (L.foldr (fun p r => (p.2.1 == p.2.2) && r) true) w
 | [], _ => by simp [Op.eqItems]
 | p :: L, h => by
  obtain ⟨h1, h2⟩ := h p List.mem_cons_self
  have ih := eqA_items (w := w) ha hq L (fun q hq' => h q (List.mem_cons_of_mem _ hq'))
  simp only [List.map_cons, Op.eqItems, Sem.run_bind, part, ha, Result.andThen_ok, Bool.false_eq_true, if_false, Nat.mul_one, h1, h2, Sem.run_pure, hq, List.foldr_cons]
  cases hb : (p.2.1 == p.2.2)
  ·simp
  simpa using ih
theorem eqA_arr {P : Program} {d t e n : Nat} {w : World} {i : TypeInfo} {xs ys : Array Value} (L : List (Nat × Int × Int)) (hu : P.underlying t = some (.array n e)) (hi : P.info? e = some i) (hc : P.cellsOf e = 1)
  (ha : ∀ w, (isAgg e).run P w = .ok false w) (hq : ∀ (w : World) (a b : Int), (Op.equalIn (d + 1) e (.int .i64 a) (.int .i64 b)).run P w = .ok (a == b) w) (hn : L.map (·.1) = List.range n)
  (h : ∀ p ∈ L, xs[p.1]? = some (.int .i64 p.2.1) ∧ ys[p.1]? = some (.int .i64 p.2.2)) :
  (Op.equalIn (d + 2) t (.agg xs) (.agg ys)).run P w = .ok (L.foldr (fun p r => (p.2.1 == p.2.2) && r) true) w := by
 rw [run_equalIn_array w (d + 1) _ _ hu hi, hc, ← hn]
 exact eqA_items ha hq L h
theorem isAggInt (w : World) : (isAgg 3).run Try.prog w = .ok false w := by
 have h := Try.underlying3
 go_simp
theorem eqInt (d : Nat) (w : World) (a b : Int) : (Op.equalIn (d + 1) 3 (.int .i64 a) (.int .i64 b)).run Try.prog w = .ok (a == b) w := by
 have h := Try.underlying3
 go_simp
theorem infoInt : ∃ i, Try.prog.info? 3 = some i := by
 have h : (Try.prog.info? 3).isSome = true := by kernel_rfl
 exact Option.isSome_iff_exists.mp h
theorem eqA128 (d : Nat) (w : World) (x0 y0 : Int) (x1 y1 : Int) (x2 y2 : Int) :
  (Op.equalIn (d + 2) 128 (.agg #[.int .i64 x0, .int .i64 x1, .int .i64 x2]) (.agg #[.int .i64 y0, .int .i64 y1, .int .i64 y2])).run Try.prog w = .ok (x0 == y0 && (x1 == y1 && (x2 == y2))) w := by
 obtain ⟨i, hi⟩ := infoInt
 refine (eqA_arr [(0, x0, y0), (1, x1, y1), (2, x2, y2)] Try.underlying128 hi (by kernel_rfl) isAggInt (eqInt d) rfl (by simp)).trans ?_
 simp
end Go.Proofs.Ytndedincanmaeaa.Print
