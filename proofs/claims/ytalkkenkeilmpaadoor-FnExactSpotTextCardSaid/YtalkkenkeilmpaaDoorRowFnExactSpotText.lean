/- The given statement Rows.FnExactSpotTextCardSaid, proved whole: for every input the law 'FnExactSpotText' returns true, and each argument reads behind the call as it read before. The condition of the row: three tables of the library read as listed; the card ties them to the program's text. -/
import Derived.Test.YtalkkenkeilmpaaDoorA1
import Derived.Test.YtalkkenkeilmpaaDoorRows
import Derived.Test.YtalkkenkeilmpaaDoorHead
import Derived.Test.YtalkkenkeilmpaaDoorG0
import Derived.Test.YtalkkenkeilmpaaDoorT2
import Derived.WalkKit
import Derived.ProofKit
import Derived.OpenShut
import Derived.ShutString
import Derived.ChangeOld
import Derived.Below
import Derived.SizedLaws
import Derived.Lib.SmallJoins
import Derived.Carry
import Derived.Test.YtalkkenkeilmpaaDoorCards
import Derived.Test.YtalkkenkeilmpaaDoorTie
import Derived.LaidMore
import Derived.SevenTiedAt
import Derived.Stop.Joined
import Derived.Lib.LaidTab
namespace Go.Proofs.YtalkkenkeilmpaaDoor.fnExactSpotText
open Go.ChangeShapes Go.WideShapes Go.ChangeAt Go.RowKit Go.Joins Go.Proofs.YtalkkenkeilmpaaDoor.Ev Go.Proofs.YtalkkenkeilmpaaDoor
open Go.ChangeMaps (open_string shut_string)
set_option linter.unusedVariables false
theorem own : ownKnob Tryd.prog.godebug = none := by kernel_rfl
theorem laidOut : laidOutB Tryd.prog = true := by kernel_rfl
theorem rd23 : Tryd.prog.readableRec 23 = true := by kernel_rfl
theorem sz23 : 23 < Tryd.prog.types.size := of_decide_eq_true (by kernel_rfl)
theorem cells23 : Tryd.prog.cellsOf 23 = 4 := by kernel_rfl
theorem door_met (os : Os) (args : Array Value) : laidMetH Tryd.prog Rows.fnExactSpotTextRow.laid ((World.doorLaid Tryd.prog 400 os).forCall (fun _ _ => 0) ⟨#[], args, []⟩).memory :=
  laidMetH_of_parts3 (fuel := 8) (laidMet_of_run' 8 (by as_aux_lemma => kernel_rfl) (by as_aux_lemma => kernel_rfl)) (by as_aux_lemma => kernel_rfl) (by as_aux_lemma => kernel_rfl)
theorem tab_ok {W : World} (h : laidMetH Tryd.prog Rows.fnExactSpotTextRow.laid W) : TabOk W := by
  rw [MakeChecks.laidMetH_plain _ _ _ (by kernel_rfl)] at h
  obtain ⟨ps, ⟨g0, t0, cs0, f0, p0, q0, hg0, ht0, hv0, hd0, ⟨g1, t1, cs1, f1, p1, q1, hg1, ht1, hv1, hd1, ⟨g2, t2, cs2, f2, p2, q2, hg2, ht2, hv2, hd2, _, _⟩, _⟩, _⟩, _, _⟩ := h
  have hg : Tryd.prog.globalNamed "internal/strconv.uint64pow10" = some 0 := by kernel_rfl
  have hty : (Tryd.prog.globals[0]?).map (·.type) = some 103 := by kernel_rfl
  obtain rfl := Option.some.inj (hg.symm.trans hg2)
  obtain rfl := Option.some.inj (hty.symm.trans ht2)
  have hc := Lib.cells_of_tab (k := .u64) (zs := Lib.pow10Tab) Tryd.underlying103 Tryd.underlying75 (by kernel_rfl) (by kernel_rfl) hd2
  intro x hx
  simp only [tabs, List.mem_cons, List.not_mem_nil, or_false] at hx
  subst hx
  unfold World.var? at hv2
  rw [hg, Option.bind_some] at hv2
  split at hv2
  · rename_i c t s hh
    cases hv2
    exact ⟨_, _, _, hh, Array.ext' (hc.trans (by kernel_rfl))⟩
  · cases hv2
set_option maxHeartbeats 2000000 in
set_option maxRecDepth 100000 in
theorem lifted (os : Os) (started : os.Started) (H : Type) (enc : TypeId × Value → H) :
    ReturnsInHanded {} Tryd.checked os 3 .any (fun w args => (Rows.fnExactSpotTextSpec.pre enc Tryd.prog Tryd.f3 Rows.fnExactSpotTextRow.domain false w args ∧ laidMetH Tryd.prog Rows.fnExactSpotTextRow.laid w) ∧ sizedMet enc Tryd.prog Tryd.f3 (OpenSpec.ofChange Rows.fnExactSpotTextSpec) false w args) (Rows.fnExactSpotTextSpec.post enc Tryd.prog Tryd.f3 false true false false) := by
  refine returnsInHanded_of_change_and (C := Tryd.checked) (X := fun w _ => laidMetH Tryd.prog Rows.fnExactSpotTextRow.laid w) (fun _ _ _ hh h => h.of_heap hh) own started (by as_aux_lemma => kernel_rfl) Tryd.func3
    (ChangeSpec.witness_shaped (enc := enc) (C := Tryd.checked) (os := os) (X := fun w _ => laidMetH Tryd.prog Rows.fnExactSpotTextRow.laid w) false (World.doorLaid Tryd.prog 400 os) #[.agg #[.int .i64 0, .int .i64 0, .int .i64 0, .int .i64 0]] 8 rfl (World.shaped_of_RefB (by as_aux_lemma => kernel_rfl) (by as_aux_lemma => kernel_rfl)) (by as_aux_lemma => kernel_rfl) (by as_aux_lemma => kernel_rfl) (by as_aux_lemma => kernel_rfl) (door_met os _)) ?_
  intro W base args ds gs before hval0 hW hcnd _ hL _
  have hval : ∀ (j : Nat) t v, Tryd.f3.params[j]? = some t → args[j]? = some v → Value.okWide Tryd.prog W .any base t v := hval0
  have hW' := hW
  obtain ⟨p, q, hA0, hV, rfl, hfz, hnd⟩ := hW
  have hA : DataW.TrodAll enc Tryd.prog W 0 (fun _ => true) true Tryd.f3.params.toList args.toList ds p := hA0
  rw [Tryd.params3] at hA hval
  obtain ⟨v0, vs0, d0, ds0, p0, q0, hargs, rfl, rfl, h0, r0⟩ := trodAll_cons hA
  obtain ⟨rfl, rfl, rfl⟩ := trodAll_nil r0
  obtain rfl : args = #[v0] := by cases args; simp_all
  obtain ⟨rfl, rfl⟩ := trodVars_none hV
  have k0 := h0
  have lt0 : ∀ x ∈ p0, x.block < W.heap.size := by obtain ⟨m, hm⟩ := k0; exact DataW.trod_lt m _ _ _ hm
  obtain ⟨c0_0, c0_1, c0_2, c0_3, y0_0, y0_1, y0_2, y0_3, n0, rfl, _, _, t0_0, t0_1, t0_2, t0_3⟩ := open_agg4 Tryd.underlying23 (by kernel_rfl) cells23 (hval 0 23 v0 rfl rfl) h0
  obtain ⟨a0_0, e0_0, _, w0_0⟩ := DataW.trod_int Tryd.underlying3 t0_0
  obtain rfl : c0_0 = .int .i64 a0_0 := by simpa using e0_0
  obtain ⟨a0_1, e0_1, _, w0_1⟩ := DataW.trod_int Tryd.underlying3 t0_1
  obtain rfl : c0_1 = .int .i64 a0_1 := by simpa using e0_1
  obtain ⟨a0_2, e0_2, _, w0_2⟩ := DataW.trod_int Tryd.underlying3 t0_2
  obtain rfl : c0_2 = .int .i64 a0_2 := by simpa using e0_2
  obtain ⟨a0_3, e0_3, _, w0_3⟩ := DataW.trod_int Tryd.underlying3 t0_3
  obtain rfl : c0_3 = .int .i64 a0_3 := by simpa using e0_3
  clear hA0 hval0
  obtain ⟨k, hk⟩ := Q.FnExactSpotText_pure ⟨a0_0, a0_1, a0_2, a0_3⟩
  refine ((G.laws_FnExactSpotText.ok k).runs _ _ (Q.G_of (F := G.laws_FnExactSpotText.e k) (Q.dec_cons (Q.dec_s4 ⟨a0_0, a0_1, a0_2, a0_3⟩) Q.dec_nil) hk) _ W (Q.all W) (tab_ok hL) (fun b h => h) rfl (Q.repsL (Q.rep_s4 a0_0 a0_1 a0_2 a0_3) Q.reps0)).mono fun e W' ⟨v, he, belD, hret⟩ => ?_
  have bel := belD.toBelow
  obtain rfl := Q.ret_true hret
  subst he
  exact ⟨_, rfl, _, _, _, [], _, [], hW', trodAll_mk1 (shut_bool Tryd.underlying4 _), (trodAll_cons_mk (Below.trod laidOut rd23 sz23 k0 bel lt0) trodAll_mk0), rfl, bel.frame _, fun h => by cases h⟩
theorem mk : (Tryd.prog.make == some Rows.fnExactSpotTextRow.make) = true := by rw [Head.makeIs]; rfl
theorem lf : (Rows.fnExactSpotTextRow.lifted == Tryd.prog.liftsFinal) = true := by rw [Head.liftsIs]; rfl
set_option maxHeartbeats 8000000 in
theorem closed : joinedFacts Tryd.prog 3 Tryd.f3 Rows.fnExactSpotTextSpec Rows.fnExactSpotTextRow = true := by
  unfold joinedFacts
  simp only [Bool.and_eq_true]
  repeat' apply And.intro
  all_goals first | with_reducible exact Head.enterIs | with_reducible exact mk | with_reducible exact lf | (as_aux_lemma => kernel_rfl)
theorem over : Rows.fnExactSpotTextRow.holds Tryd.pinned (OpenSpec.ofChange Rows.fnExactSpotTextSpec) :=
  OpenClaim.holds_of_wide 3 Tryd.f3 rfl rfl rfl rfl rfl rfl rfl ⟨rfl, rfl, rfl, rfl, rfl⟩ rfl rfl rfl rfl rfl (by as_aux_lemma => kernel_rfl) Tryd.func3 closed
    (of_decide_eq_true (by as_aux_lemma => kernel_rfl)) (by unfold Func.isWrapper; first | (rw [if_pos (by decide +kernel)]; kernel_rfl) | (rw [if_neg (by decide +kernel)]; exact ⟨rfl, rfl⟩))
    (fun os started H enc _ => lifted os started H enc)
theorem proved : Rows.FnExactSpotTextSaid := over
theorem card : Rows.FnExactSpotTextCardSaid :=
  Claim7.holds_tied_plain_at .later [] [.data, .data, .data] true (true, "f3c0045f11f935d24c1b2ba05e5a9677e9b770b0746c85f57e1280a4ab2b3aa2") true
    over (fun _ h => by cases h) (by as_aux_lemma => kernel_rfl) (fun _ h => by cases h) fnExactSpotText_row_tie rfl ⟨rfl, rfl⟩ (by as_aux_lemma => kernel_rfl) rfl
    (fun f fn hf hfn => by
      obtain rfl : f = 3 := Option.some.inj ((show Tryd.prog.funcNamed "loop.example/g00125/laws.FnExactSpotText" = some 3 by kernel_rfl).symm.trans hf) |>.symm
      obtain rfl : fn = Tryd.f3 := (Option.some.inj (Tryd.func3.symm.trans hfn)).symm
      exact ⟨by kernel_rfl, fun j t ht => by
        rw [Tryd.params3] at ht
        have hm : t ∈ [23] := by simpa using Array.mem_of_getElem? ht
        have hall : ([23].all fun u => !Tryd.prog.wantsStandIn u) = true := by kernel_rfl
        exact (show Tryd.prog.wantsStandIn t = false by simpa using List.all_eq_true.1 hall t hm)⟩)
    (by as_aux_lemma => kernel_rfl)
#print axioms card
end Go.Proofs.YtalkkenkeilmpaaDoor.fnExactSpotText
namespace Go.Proofs.YtalkkenkeilmpaaDoor
/-- The row, under a short name, for the claim. -/
theorem fnExactSpotText_holds : Rows.FnExactSpotTextCardSaid := fnExactSpotText.card
end Go.Proofs.YtalkkenkeilmpaaDoor


