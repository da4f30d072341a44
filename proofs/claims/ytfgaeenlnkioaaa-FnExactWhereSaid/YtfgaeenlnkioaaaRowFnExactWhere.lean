/- The given statement Rows.FnExactWhereSaid, proved whole: for every input the law 'FnExactWhere' returns true, and each argument reads behind the call as it read before. No condition. -/
import Derived.Test.YtfgaeenlnkioaaaA1
import Derived.Test.YtfgaeenlnkioaaaRows
import Derived.Test.YtfgaeenlnkioaaaHead
import Derived.Test.YtfgaeenlnkioaaaG3
import Derived.Test.YtfgaeenlnkioaaaP7
import Derived.WalkKit
import Derived.ProofKit
import Derived.OpenShut
import Derived.ShutString
import Derived.ChangeOld
import Derived.Below
import Derived.SizedLaws
import Derived.Lib.SmallJoins
import Derived.Carry
namespace Go.Proofs.Ytfgaeenlnkioaaa.fnExactWhere
open Go.ChangeShapes Go.WideShapes Go.ChangeAt Go.RowKit Go.Joins Go.Proofs.Ytfgaeenlnkioaaa.Ev Go.Proofs.Ytfgaeenlnkioaaa
open Go.ChangeMaps (open_string shut_string)
set_option linter.unusedVariables false
theorem own : ownKnob Try.prog.godebug = none := by kernel_rfl
theorem laidOut : laidOutB Try.prog = true := by kernel_rfl
theorem cells36 : Try.prog.cellsOf 36 = 6 := by kernel_rfl
theorem rd36 : Try.prog.readableRec 36 = true := by kernel_rfl
theorem sz36 : 36 < Try.prog.types.size := of_decide_eq_true (by kernel_rfl)
theorem rd55 : Try.prog.readableRec 55 = true := by kernel_rfl
theorem sz55 : 55 < Try.prog.types.size := of_decide_eq_true (by kernel_rfl)
theorem cells55 : Try.prog.cellsOf 55 = 4 := by kernel_rfl
set_option maxHeartbeats 2000000 in
set_option maxRecDepth 100000 in
theorem lifted (os : Os) (started : os.Started) (H : Type) (enc : TypeId × Value → H) :
    ReturnsInHanded {} Try.checked os 12 .any (Rows.fnExactWhereSpec.pre6 enc Try.prog Try.f12 Rows.fnExactWhereRow.domain false) (Rows.fnExactWhereSpec.post enc Try.prog Try.f12 false true false false) := by
  refine returnsInHanded_of_change_sized (C := Try.checked) own started (by as_aux_lemma => kernel_rfl) Try.func12
    (ChangeSpec.witness6 (enc := enc) (C := Try.checked) false ⟨#[], #[.agg #[.bool false, .int .i64 0, .int .i64 0, .int .i64 0, .int .i64 0, .slice none 0 0], .agg #[.int .i64 0, .int .i64 0, .int .i64 0, .int .i64 0]], []⟩ 8 (by as_aux_lemma => kernel_rfl) (by as_aux_lemma => kernel_rfl) (by as_aux_lemma => kernel_rfl) (by as_aux_lemma => kernel_rfl)) ?_
  intro W base args ds gs before hval0 hW hcnd hsz0 _
  have hsz : (DataW.weightsEach Try.prog (Try.f12.params.toList ++ Rows.fnExactWhereSpec.plain.varTypes Try.prog) (ds ++ gs)).all (· ≤ reachBytes) = true := hsz0
  have hval : ∀ (j : Nat) t v, Try.f12.params[j]? = some t → args[j]? = some v → Value.okWide Try.prog W .any base t v := hval0
  have hW' := hW
  obtain ⟨p, q, hA0, hV, rfl, hfz, hnd⟩ := hW
  have hA : DataW.TrodAll enc Try.prog W 0 (fun _ => true) true Try.f12.params.toList args.toList ds p := hA0
  rw [Try.params12] at hA hval hsz
  obtain ⟨v0, vs0, d0, ds0, p0, q0, hargs, rfl, rfl, h0, r0⟩ := trodAll_cons hA
  obtain ⟨v1, vs1, d1, ds1, p1, q1, rfl, rfl, rfl, h1, r1⟩ := trodAll_cons r0
  obtain ⟨rfl, rfl, rfl⟩ := trodAll_nil r1
  obtain rfl : args = #[v0, v1] := by cases args; simp_all
  obtain ⟨rfl, rfl⟩ := trodVars_none hV
  have k0 := h0
  have lt0 : ∀ x ∈ p0, x.block < W.heap.size := by obtain ⟨m, hm⟩ := k0; exact DataW.trod_lt m _ _ _ hm
  obtain ⟨T0, m0, r_0⟩ := Q.open_solid (by obtain ⟨xs, e, hn⟩ := okWide_struct Try.underlying36 (hval 0 36 v0 rfl rfl); exact ⟨xs, e, hn.trans cells36⟩) h0
  have k1 := h1
  have lt1 : ∀ x ∈ p1, x.block < W.heap.size := by obtain ⟨m, hm⟩ := k1; exact DataW.trod_lt m _ _ _ hm
  obtain ⟨c1_0, c1_1, c1_2, c1_3, y1_0, y1_1, y1_2, y1_3, n1, rfl, _, _, t1_0, t1_1, t1_2, t1_3⟩ := open_agg4 Try.underlying55 (by kernel_rfl) cells55 (hval 1 55 v1 rfl rfl) h1
  obtain ⟨a1_0, e1_0, _, w1_0⟩ := DataW.trod_int Try.underlying3 t1_0
  obtain rfl : c1_0 = .int .i64 a1_0 := by simpa using e1_0
  obtain ⟨a1_1, e1_1, _, w1_1⟩ := DataW.trod_int Try.underlying3 t1_1
  obtain rfl : c1_1 = .int .i64 a1_1 := by simpa using e1_1
  obtain ⟨a1_2, e1_2, _, w1_2⟩ := DataW.trod_int Try.underlying3 t1_2
  obtain rfl : c1_2 = .int .i64 a1_2 := by simpa using e1_2
  obtain ⟨a1_3, e1_3, _, w1_3⟩ := DataW.trod_int Try.underlying3 t1_3
  obtain rfl : c1_3 = .int .i64 a1_3 := by simpa using e1_3
  clear hA0 hval0 hsz0 hsz
  obtain ⟨k, hk⟩ := Q.FnExactWhere_pure m0 ⟨a1_0, a1_1, a1_2, a1_3⟩
  refine ((G.laws_FnExactWhere.ok k).runs _ _ (Q.G_of (F := G.laws_FnExactWhere.e k) (Q.dec_cons (Q.dec_tree T0) (Q.dec_cons (Q.dec_s4 ⟨a1_0, a1_1, a1_2, a1_3⟩) Q.dec_nil)) hk) _ W (Q.all W) (fun b h => h) rfl (Q.repsL r_0 (Q.repsL (Q.rep_s4 a1_0 a1_1 a1_2 a1_3) Q.reps0))).mono fun e W' ⟨v, he, bel, hret⟩ => ?_
  obtain rfl := Q.ret_true hret
  subst he
  exact ⟨_, rfl, _, _, _, [], _, [], hW', trodAll_mk1 (shut_bool Try.underlying4 _), (trodAll_cons_mk (Below.trod laidOut rd36 sz36 k0 bel lt0) (trodAll_cons_mk (Below.trod laidOut rd55 sz55 k1 bel lt1) trodAll_mk0)), rfl, bel.frame _, fun h => by cases h⟩
theorem mk : (Try.prog.make == some Rows.fnExactWhereRow.make) = true := by rw [Head.makeIs]; rfl
theorem lf : (Rows.fnExactWhereRow.lifted == Try.prog.liftsFinal) = true := by rw [Head.liftsIs]; rfl
set_option maxHeartbeats 8000000 in
theorem closed : joinedFacts Try.prog 12 Try.f12 Rows.fnExactWhereSpec Rows.fnExactWhereRow = true := by
  unfold joinedFacts
  simp only [Bool.and_eq_true]
  repeat' apply And.intro
  all_goals first | with_reducible exact Head.enterIs | with_reducible exact mk | with_reducible exact lf | (as_aux_lemma => kernel_rfl)
theorem over : Rows.fnExactWhereRow.holds Try.pinned (OpenSpec.ofChange Rows.fnExactWhereSpec) :=
  OpenClaim.holds_of_wide 12 Try.f12 rfl rfl rfl rfl rfl rfl rfl ⟨rfl, rfl, rfl, rfl, rfl⟩ rfl rfl rfl rfl rfl (by as_aux_lemma => kernel_rfl) Try.func12 closed
    (of_decide_eq_true (by as_aux_lemma => kernel_rfl)) (by unfold Func.isWrapper; first | (rw [if_pos (by decide +kernel)]; kernel_rfl) | (rw [if_neg (by decide +kernel)]; exact ⟨rfl, rfl⟩))
    (fun os started H enc _ => lifted os started H enc)
theorem proved : Rows.FnExactWhereSaid := over
#print axioms proved
end Go.Proofs.Ytfgaeenlnkioaaa.fnExactWhere
namespace Go.Proofs.Ytfgaeenlnkioaaa
/-- The row, under a short name, for the claim. -/
theorem fnExactWhere_holds : Rows.FnExactWhereSaid := fnExactWhere.proved
end Go.Proofs.Ytfgaeenlnkioaaa

