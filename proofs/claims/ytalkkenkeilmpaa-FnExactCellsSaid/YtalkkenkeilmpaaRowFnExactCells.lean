/- The given statement Rows.FnExactCellsSaid, proved whole: for every input the law 'FnExactCells' returns true, and each argument reads behind the call as it read before. No condition. -/
import Derived.Test.YtalkkenkeilmpaaA1
import Derived.Test.YtalkkenkeilmpaaRows
import Derived.Test.YtalkkenkeilmpaaHead
import Derived.Test.YtalkkenkeilmpaaG3
import Derived.Test.YtalkkenkeilmpaaR1
import Derived.WalkKit
import Derived.ProofKit
import Derived.OpenShut
import Derived.ShutString
import Derived.ChangeOld
import Derived.Below
import Derived.SizedLaws
import Derived.Lib.SmallJoins
import Derived.Carry
namespace Go.Proofs.Ytalkkenkeilmpaa.fnExactCells
open Go.ChangeShapes Go.WideShapes Go.ChangeAt Go.RowKit Go.Joins Go.Proofs.Ytalkkenkeilmpaa.Ev Go.Proofs.Ytalkkenkeilmpaa
open Go.ChangeMaps (open_string shut_string)
set_option linter.unusedVariables false
theorem own : ownKnob Try.prog.godebug = none := by kernel_rfl
theorem laidOut : laidOutB Try.prog = true := by kernel_rfl
theorem rd4 : Try.prog.readableRec 4 = true := by kernel_rfl
theorem sz4 : 4 < Try.prog.types.size := of_decide_eq_true (by kernel_rfl)
theorem cells26 : Try.prog.cellsOf 26 = 6 := by kernel_rfl
theorem rd26 : Try.prog.readableRec 26 = true := by kernel_rfl
theorem sz26 : 26 < Try.prog.types.size := of_decide_eq_true (by kernel_rfl)
set_option maxHeartbeats 2000000 in
set_option maxRecDepth 100000 in
theorem lifted (os : Os) (started : os.Started) (H : Type) (enc : TypeId × Value → H) :
    ReturnsInHanded {} Try.checked os 3 .any (Rows.fnExactCellsSpec.pre6 enc Try.prog Try.f3 Rows.fnExactCellsRow.domain false) (Rows.fnExactCellsSpec.post enc Try.prog Try.f3 false true false false) := by
  refine returnsInHanded_of_change_sized (C := Try.checked) own started (by as_aux_lemma => kernel_rfl) Try.func3
    (ChangeSpec.witness6 (enc := enc) (C := Try.checked) false ⟨#[], #[.agg #[.bool false, .int .i64 0, .int .i64 0, .int .i64 0, .int .i64 0, .slice none 0 0], .bool false], []⟩ 8 (by as_aux_lemma => kernel_rfl) (by as_aux_lemma => kernel_rfl) (by as_aux_lemma => kernel_rfl) (by as_aux_lemma => kernel_rfl)) ?_
  intro W base args ds gs before hval0 hW hcnd hsz0 _
  have hsz : (DataW.weightsEach Try.prog (Try.f3.params.toList ++ Rows.fnExactCellsSpec.plain.varTypes Try.prog) (ds ++ gs)).all (· ≤ reachBytes) = true := hsz0
  have hval : ∀ (j : Nat) t v, Try.f3.params[j]? = some t → args[j]? = some v → Value.okWide Try.prog W .any base t v := hval0
  have hW' := hW
  obtain ⟨p, q, hA0, hV, rfl, hfz, hnd⟩ := hW
  have hA : DataW.TrodAll enc Try.prog W 0 (fun _ => true) true Try.f3.params.toList args.toList ds p := hA0
  rw [Try.params3] at hA hval hsz
  obtain ⟨v0, vs0, d0, ds0, p0, q0, hargs, rfl, rfl, h0, r0⟩ := trodAll_cons hA
  obtain ⟨v1, vs1, d1, ds1, p1, q1, rfl, rfl, rfl, h1, r1⟩ := trodAll_cons r0
  obtain ⟨rfl, rfl, rfl⟩ := trodAll_nil r1
  obtain rfl : args = #[v0, v1] := by cases args; simp_all
  obtain ⟨rfl, rfl⟩ := trodVars_none hV
  have k0 := h0
  have lt0 : ∀ x ∈ p0, x.block < W.heap.size := by obtain ⟨m, hm⟩ := k0; exact DataW.trod_lt m _ _ _ hm
  obtain ⟨T0, m0, r_0⟩ := Q.open_solid (by obtain ⟨xs, e, hn⟩ := okWide_struct Try.underlying26 (hval 0 26 v0 rfl rfl); exact ⟨xs, e, hn.trans cells26⟩) h0
  have k1 := h1
  have lt1 : ∀ x ∈ p1, x.block < W.heap.size := by obtain ⟨m, hm⟩ := k1; exact DataW.trod_lt m _ _ _ hm
  obtain ⟨a1, rfl, _, _⟩ := open_bool Try.underlying4 (hval 1 4 v1 rfl rfl) h1
  clear hA0 hval0 hsz0 hsz
  obtain ⟨k, hk⟩ := Q.FnExactCells_pure m0 a1
  refine ((G.laws_FnExactCells.ok k).runs _ _ (Q.G_of (F := G.laws_FnExactCells.e k) (Q.dec_cons (Q.dec_tree T0) (Q.dec_cons (Q.dec_b a1) Q.dec_nil)) hk) _ W (Q.all W) (fun b h => h) rfl (Q.repsL r_0 (Q.repsL (Q.rep_b a1) Q.reps0))).mono fun e W' ⟨v, he, belD, hret⟩ => ?_
  have bel := belD.toBelow
  obtain rfl := Q.ret_true hret
  subst he
  exact ⟨_, rfl, _, _, _, [], _, [], hW', trodAll_mk1 (shut_bool Try.underlying4 _), (trodAll_cons_mk (Below.trod laidOut rd26 sz26 k0 bel lt0) (trodAll_cons_mk (Below.trod laidOut rd4 sz4 k1 bel lt1) trodAll_mk0)), rfl, bel.frame _, fun h => by cases h⟩
theorem mk : (Try.prog.make == some Rows.fnExactCellsRow.make) = true := by rw [Head.makeIs]; rfl
theorem lf : (Rows.fnExactCellsRow.lifted == Try.prog.liftsFinal) = true := by rw [Head.liftsIs]; rfl
set_option maxHeartbeats 8000000 in
theorem closed : joinedFacts Try.prog 3 Try.f3 Rows.fnExactCellsSpec Rows.fnExactCellsRow = true := by
  unfold joinedFacts
  simp only [Bool.and_eq_true]
  repeat' apply And.intro
  all_goals first | with_reducible exact Head.enterIs | with_reducible exact mk | with_reducible exact lf | (as_aux_lemma => kernel_rfl)
theorem over : Rows.fnExactCellsRow.holds Try.pinned (OpenSpec.ofChange Rows.fnExactCellsSpec) :=
  OpenClaim.holds_of_wide 3 Try.f3 rfl rfl rfl rfl rfl rfl rfl ⟨rfl, rfl, rfl, rfl, rfl⟩ rfl rfl rfl rfl rfl (by as_aux_lemma => kernel_rfl) Try.func3 closed
    (of_decide_eq_true (by as_aux_lemma => kernel_rfl)) (by unfold Func.isWrapper; first | (rw [if_pos (by decide +kernel)]; kernel_rfl) | (rw [if_neg (by decide +kernel)]; exact ⟨rfl, rfl⟩))
    (fun os started H enc _ => lifted os started H enc)
theorem proved : Rows.FnExactCellsSaid := over
#print axioms proved
end Go.Proofs.Ytalkkenkeilmpaa.fnExactCells
namespace Go.Proofs.Ytalkkenkeilmpaa
/-- The row, under a short name, for the claim. -/
theorem fnExactCells_holds : Rows.FnExactCellsSaid := fnExactCells.proved
end Go.Proofs.Ytalkkenkeilmpaa

