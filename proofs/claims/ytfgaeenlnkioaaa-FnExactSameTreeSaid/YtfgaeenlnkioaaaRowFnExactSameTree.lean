/- The given statement Rows.FnExactSameTreeSaid, proved whole: for every input the law 'FnExactSameTree' returns true, and each argument reads behind the call as it read before. No condition. -/
import Derived.Test.YtfgaeenlnkioaaaA1
import Derived.Test.YtfgaeenlnkioaaaRows
import Derived.Test.YtfgaeenlnkioaaaHead
import Derived.Test.YtfgaeenlnkioaaaG0
import Derived.Test.YtfgaeenlnkioaaaP8
import Derived.WalkKit
import Derived.ProofKit
import Derived.OpenShut
import Derived.ShutString
import Derived.ChangeOld
import Derived.Below
import Derived.SizedLaws
import Derived.Lib.SmallJoins
import Derived.Carry
namespace Go.Proofs.Ytfgaeenlnkioaaa.fnExactSameTree
open Go.ChangeShapes Go.WideShapes Go.ChangeAt Go.RowKit Go.Joins Go.Proofs.Ytfgaeenlnkioaaa.Ev Go.Proofs.Ytfgaeenlnkioaaa
open Go.ChangeMaps (open_string shut_string)
set_option linter.unusedVariables false
theorem own : ownKnob Try.prog.godebug = none := by kernel_rfl
theorem laidOut : laidOutB Try.prog = true := by kernel_rfl
theorem cells36 : Try.prog.cellsOf 36 = 6 := by kernel_rfl
theorem rd36 : Try.prog.readableRec 36 = true := by kernel_rfl
theorem sz36 : 36 < Try.prog.types.size := of_decide_eq_true (by kernel_rfl)
set_option maxHeartbeats 2000000 in
set_option maxRecDepth 100000 in
theorem lifted (os : Os) (started : os.Started) (H : Type) (enc : TypeId × Value → H) :
    ReturnsInHanded {} Try.checked os 4 .any (Rows.fnExactSameTreeSpec.pre6 enc Try.prog Try.f4 Rows.fnExactSameTreeRow.domain false) (Rows.fnExactSameTreeSpec.post enc Try.prog Try.f4 false true false false) := by
  refine returnsInHanded_of_change_sized (C := Try.checked) own started (by as_aux_lemma => kernel_rfl) Try.func4
    (ChangeSpec.witness6 (enc := enc) (C := Try.checked) false ⟨#[], #[.agg #[.bool false, .int .i64 0, .int .i64 0, .int .i64 0, .int .i64 0, .slice none 0 0], .agg #[.bool false, .int .i64 0, .int .i64 0, .int .i64 0, .int .i64 0, .slice none 0 0]], []⟩ 8 (by as_aux_lemma => kernel_rfl) (by as_aux_lemma => kernel_rfl) (by as_aux_lemma => kernel_rfl) (by as_aux_lemma => kernel_rfl)) ?_
  intro W base args ds gs before hval0 hW hcnd hsz0 _
  have hsz : (DataW.weightsEach Try.prog (Try.f4.params.toList ++ Rows.fnExactSameTreeSpec.plain.varTypes Try.prog) (ds ++ gs)).all (· ≤ reachBytes) = true := hsz0
  have hval : ∀ (j : Nat) t v, Try.f4.params[j]? = some t → args[j]? = some v → Value.okWide Try.prog W .any base t v := hval0
  have hW' := hW
  obtain ⟨p, q, hA0, hV, rfl, hfz, hnd⟩ := hW
  have hA : DataW.TrodAll enc Try.prog W 0 (fun _ => true) true Try.f4.params.toList args.toList ds p := hA0
  rw [Try.params4] at hA hval hsz
  obtain ⟨v0, vs0, d0, ds0, p0, q0, hargs, rfl, rfl, h0, r0⟩ := trodAll_cons hA
  obtain ⟨v1, vs1, d1, ds1, p1, q1, rfl, rfl, rfl, h1, r1⟩ := trodAll_cons r0
  obtain ⟨rfl, rfl, rfl⟩ := trodAll_nil r1
  obtain rfl : args = #[v0, v1] := by cases args; simp_all
  obtain ⟨rfl, rfl⟩ := trodVars_none hV
  have k0 := h0
  have lt0 : ∀ x ∈ p0, x.block < W.heap.size := by obtain ⟨m, hm⟩ := k0; exact DataW.trod_lt m _ _ _ hm
  obtain ⟨T0, m0, r_0⟩ := Q.open_solid (by obtain ⟨xs, e, hn⟩ := okWide_struct Try.underlying36 (hval 0 36 v0 rfl rfl); exact ⟨xs, e, hn.trans cells36⟩) h0
  have k1 := h1
  have lt1 : ∀ x ∈ p1, x.block < W.heap.size := by obtain ⟨m, hm⟩ := k1; exact DataW.trod_lt m _ _ _ hm
  obtain ⟨T1, m1, r_1⟩ := Q.open_solid (by obtain ⟨xs, e, hn⟩ := okWide_struct Try.underlying36 (hval 1 36 v1 rfl rfl); exact ⟨xs, e, hn.trans cells36⟩) h1
  clear hA0 hval0 hsz0 hsz
  obtain ⟨k, hk⟩ := Q.FnExactSameTree_pure m0 m1
  refine ((G.laws_FnExactSameTree.ok k).runs _ _ (Q.G_of (F := G.laws_FnExactSameTree.e k) (Q.dec_cons (Q.dec_tree T0) (Q.dec_cons (Q.dec_tree T1) Q.dec_nil)) hk) _ W (Q.all W) (fun b h => h) rfl (Q.repsL r_0 (Q.repsL r_1 Q.reps0))).mono fun e W' ⟨v, he, bel, hret⟩ => ?_
  obtain rfl := Q.ret_true hret
  subst he
  exact ⟨_, rfl, _, _, _, [], _, [], hW', trodAll_mk1 (shut_bool Try.underlying4 _), (trodAll_cons_mk (Below.trod laidOut rd36 sz36 k0 bel lt0) (trodAll_cons_mk (Below.trod laidOut rd36 sz36 k1 bel lt1) trodAll_mk0)), rfl, bel.frame _, fun h => by cases h⟩
theorem mk : (Try.prog.make == some Rows.fnExactSameTreeRow.make) = true := by rw [Head.makeIs]; rfl
theorem lf : (Rows.fnExactSameTreeRow.lifted == Try.prog.liftsFinal) = true := by rw [Head.liftsIs]; rfl
set_option maxHeartbeats 8000000 in
theorem closed : joinedFacts Try.prog 4 Try.f4 Rows.fnExactSameTreeSpec Rows.fnExactSameTreeRow = true := by
  unfold joinedFacts
  simp only [Bool.and_eq_true]
  repeat' apply And.intro
  all_goals first | with_reducible exact Head.enterIs | with_reducible exact mk | with_reducible exact lf | (as_aux_lemma => kernel_rfl)
theorem over : Rows.fnExactSameTreeRow.holds Try.pinned (OpenSpec.ofChange Rows.fnExactSameTreeSpec) :=
  OpenClaim.holds_of_wide 4 Try.f4 rfl rfl rfl rfl rfl rfl rfl ⟨rfl, rfl, rfl, rfl, rfl⟩ rfl rfl rfl rfl rfl (by as_aux_lemma => kernel_rfl) Try.func4 closed
    (of_decide_eq_true (by as_aux_lemma => kernel_rfl)) (by unfold Func.isWrapper; first | (rw [if_pos (by decide +kernel)]; kernel_rfl) | (rw [if_neg (by decide +kernel)]; exact ⟨rfl, rfl⟩))
    (fun os started H enc _ => lifted os started H enc)
theorem proved : Rows.FnExactSameTreeSaid := over
#print axioms proved
end Go.Proofs.Ytfgaeenlnkioaaa.fnExactSameTree
namespace Go.Proofs.Ytfgaeenlnkioaaa
/-- The row, under a short name, for the claim. -/
theorem fnExactSameTree_holds : Rows.FnExactSameTreeSaid := fnExactSameTree.proved
end Go.Proofs.Ytfgaeenlnkioaaa

