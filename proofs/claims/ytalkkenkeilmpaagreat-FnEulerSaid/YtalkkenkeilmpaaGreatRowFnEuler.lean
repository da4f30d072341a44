/- The given statement Rows.FnEulerSaid, proved whole: for every input the law 'FnEuler' returns true, and each argument reads behind the call as it read before. No condition. -/
import Derived.Test.YtalkkenkeilmpaaGreatA1
import Derived.Test.YtalkkenkeilmpaaGreatA3
import Derived.Test.YtalkkenkeilmpaaGreatRows
import Derived.Test.YtalkkenkeilmpaaGreatHead
import Derived.Test.YtalkkenkeilmpaaGreatG7
import Derived.Test.YtalkkenkeilmpaaGreatU5
import Derived.WalkKit
import Derived.ProofKit
import Derived.OpenShut
import Derived.ShutString
import Derived.ChangeOld
import Derived.Below
import Derived.SizedLaws
import Derived.Lib.SmallJoins
import Derived.Carry
namespace Go.Proofs.YtalkkenkeilmpaaGreat.fnEuler
open Go.ChangeShapes Go.WideShapes Go.ChangeAt Go.RowKit Go.Joins Go.Proofs.YtalkkenkeilmpaaGreat.Ev Go.Proofs.YtalkkenkeilmpaaGreat
open Go.ChangeMaps (open_string shut_string)
set_option linter.unusedVariables false
theorem own : ownKnob Tryz.prog.godebug = none := by kernel_rfl
theorem laidOut : laidOutB Tryz.prog = true := by kernel_rfl
theorem rd22 : Tryz.prog.readableRec 22 = true := by kernel_rfl
theorem sz22 : 22 < Tryz.prog.types.size := of_decide_eq_true (by kernel_rfl)
set_option maxHeartbeats 2000000 in
set_option maxRecDepth 100000 in
theorem lifted (os : Os) (started : os.Started) (H : Type) (enc : TypeId × Value → H) :
    ReturnsInHanded {} Tryz.checked os 4 .any (Rows.fnEulerSpec.pre6 enc Tryz.prog Tryz.f4 Rows.fnEulerRow.domain false) (Rows.fnEulerSpec.post enc Tryz.prog Tryz.f4 false true false false) := by
  refine returnsInHanded_of_change_sized (C := Tryz.checked) own started (by as_aux_lemma => kernel_rfl) Tryz.func4
    (ChangeSpec.witness6 (enc := enc) (C := Tryz.checked) false ⟨#[], #[.slice none 0 0], []⟩ 8 (by as_aux_lemma => kernel_rfl) (by as_aux_lemma => kernel_rfl) (by as_aux_lemma => kernel_rfl) (by as_aux_lemma => kernel_rfl)) ?_
  intro W base args ds gs before hval0 hW hcnd hsz0 _
  have hsz : (DataW.weightsEach Tryz.prog (Tryz.f4.params.toList ++ Rows.fnEulerSpec.plain.varTypes Tryz.prog) (ds ++ gs)).all (· ≤ reachBytes) = true := hsz0
  have hval : ∀ (j : Nat) t v, Tryz.f4.params[j]? = some t → args[j]? = some v → Value.okWide Tryz.prog W .any base t v := hval0
  have hW' := hW
  obtain ⟨p, q, hA0, hV, rfl, hfz, hnd⟩ := hW
  have hA : DataW.TrodAll enc Tryz.prog W 0 (fun _ => true) true Tryz.f4.params.toList args.toList ds p := hA0
  rw [Tryz.params4] at hA hval hsz
  obtain ⟨v0, vs0, d0, ds0, p0, q0, hargs, rfl, rfl, h0, r0⟩ := trodAll_cons hA
  obtain ⟨rfl, rfl, rfl⟩ := trodAll_nil r0
  obtain rfl : args = #[v0] := by cases args; simp_all
  obtain ⟨rfl, rfl⟩ := trodVars_none hV
  have k0 := h0
  have lt0 : ∀ x ∈ p0, x.block < W.heap.size := by obtain ⟨m, hm⟩ := k0; exact DataW.trod_lt m _ _ _ hm
  obtain ⟨L0, m0, r_0⟩ := Q.open_bytes (okWide_slice Tryz.underlying22 (hval 0 22 v0 rfl rfl)) h0
  clear hA0 hval0 hsz0 hsz
  obtain ⟨k, hk⟩ := Q.FnEuler_pure m0
  refine ((G.laws_FnEuler.ok k).runs _ _ (Q.G_of (F := G.laws_FnEuler.e k) (Q.dec_cons (Q.dec_bytes L0) Q.dec_nil) hk) _ W (Q.all W) (fun b h => h) rfl (Q.repsL r_0 Q.reps0)).mono fun e W' ⟨v, he, belD, hret⟩ => ?_
  have bel := belD.toBelow
  obtain rfl := Q.ret_true hret
  subst he
  exact ⟨_, rfl, _, _, _, [], _, [], hW', trodAll_mk1 (shut_bool Tryz.underlying4 _), (trodAll_cons_mk (Below.trod laidOut rd22 sz22 k0 bel lt0) trodAll_mk0), rfl, bel.frame _, fun h => by cases h⟩
theorem mk : (Tryz.prog.make == some Rows.fnEulerRow.make) = true := by rw [Head.makeIs]; rfl
theorem lf : (Rows.fnEulerRow.lifted == Tryz.prog.liftsFinal) = true := by rw [Head.liftsIs]; rfl
set_option maxHeartbeats 8000000 in
theorem closed : joinedFacts Tryz.prog 4 Tryz.f4 Rows.fnEulerSpec Rows.fnEulerRow = true := by
  unfold joinedFacts
  simp only [Bool.and_eq_true]
  repeat' apply And.intro
  all_goals first | with_reducible exact Head.enterIs | with_reducible exact mk | with_reducible exact lf | (as_aux_lemma => kernel_rfl)
theorem over : Rows.fnEulerRow.holds Tryz.pinned (OpenSpec.ofChange Rows.fnEulerSpec) :=
  OpenClaim.holds_of_wide 4 Tryz.f4 rfl rfl rfl rfl rfl rfl rfl ⟨rfl, rfl, rfl, rfl, rfl⟩ rfl rfl rfl rfl rfl (by as_aux_lemma => kernel_rfl) Tryz.func4 closed
    (of_decide_eq_true (by as_aux_lemma => kernel_rfl)) (by unfold Func.isWrapper; first | (rw [if_pos (by decide +kernel)]; kernel_rfl) | (rw [if_neg (by decide +kernel)]; exact ⟨rfl, rfl⟩))
    (fun os started H enc _ => lifted os started H enc)
theorem proved : Rows.FnEulerSaid := over
#print axioms proved
end Go.Proofs.YtalkkenkeilmpaaGreat.fnEuler
namespace Go.Proofs.YtalkkenkeilmpaaGreat
/-- The row, under a short name, for the claim. -/
theorem fnEuler_holds : Rows.FnEulerSaid := fnEuler.proved
end Go.Proofs.YtalkkenkeilmpaaGreat

