/- The given statement Rows.FnPlaneTextsCardSaid, proved whole: for every input the law 'FnPlaneTexts' returns true, and each argument reads behind the call as it read before. The condition of the row: variables of the library read as listed; the card ties them to the program's text. -/
import Derived.Test.YtalkkenkeilmpaaGreatDoorA1
import Derived.Test.YtalkkenkeilmpaaGreatDoorA3
import Derived.Test.YtalkkenkeilmpaaGreatDoorRows
import Derived.Test.YtalkkenkeilmpaaGreatDoorHead
import Derived.Test.YtalkkenkeilmpaaGreatDoorG2
import Derived.Test.YtalkkenkeilmpaaGreatDoorT6
import Derived.WalkKit
import Derived.ProofKit
import Derived.OpenShut
import Derived.ShutString
import Derived.ChangeOld
import Derived.Below
import Derived.SizedLaws
import Derived.Lib.SmallJoins
import Derived.Carry
import Derived.Test.YtalkkenkeilmpaaGreatDoorCards
import Derived.Test.YtalkkenkeilmpaaGreatDoorTie
import Derived.LaidMore
import Derived.Lay
import Derived.LaidLaws
import Derived.SevenTiedAt
import Derived.Stop.Joined
import Derived.Lib.LaidTab
import Derived.Shelf.Vars
import Derived.SizedLaws
namespace Go.Proofs.YtalkkenkeilmpaaGreatDoor.fnPlaneTexts
open Go.ChangeShapes Go.WideShapes Go.ChangeAt Go.RowKit Go.Joins Go.Proofs.YtalkkenkeilmpaaGreatDoor.Ev Go.Proofs.YtalkkenkeilmpaaGreatDoor
open Go.ChangeMaps (open_string shut_string)
set_option linter.unusedVariables false
theorem own : ownKnob Tryz.prog.godebug = none := by kernel_rfl
theorem laidOut : laidOutB Tryz.prog = true := by kernel_rfl
theorem rd22 : Tryz.prog.readableRec 22 = true := by kernel_rfl
theorem sz22 : 22 < Tryz.prog.types.size := of_decide_eq_true (by kernel_rfl)
theorem andShaped {H : Type} {enc : TypeId × Value → H} {a : Assume} {C : Checked} {os : Os} {f : FuncId} {fn : Func} {s : ChangeSpec} {conds : List PathCond} {apart fresh handsOn again : Bool} {X : World → Array Value → Prop}
    (hX : ∀ (w w' : World) (args : Array Value), w.heap = w'.heap → X w args → X w' args)
    (own : ownKnob C.prog.godebug = none) (started : os.Started) (noInit : C.prog.inits.idxOf? f = none) (hfn : C.prog.funcs[f]? = some fn)
    (witness : ∃ (w : World) (tape : Tape) (i : Input), w.os = os ∧ (w.forCall tape i).Shaped C.prog ∧ i.vars = [] ∧ Input.okWide C.prog (w.forCall tape i) .any w.heap.size f i ∧
      ((s.pre enc C.prog fn conds apart (w.forCall tape i).memory i.args ∧ X (w.forCall tape i).memory i.args) ∧ sizedMet enc C.prog fn (OpenSpec.ofChange s) apart (w.forCall tape i).memory i.args) ∧ a.holds C.prog (lone (Frame.enter C.prog f i.args .normal) [] (w.forCall tape i)))
    (contract : ∀ (W : World) (base : Nat) (args : Array Value) (ds gs : List (DataW H)) (before : List MemPlace),
      (∀ (j : Nat) t v, fn.params[j]? = some t → args[j]? = some v → Value.okWide C.prog W .any base t v) →
      DataW.Whole enc C.prog fn.params.toList s.vars apart W args.toList ds gs before →
      conds.all (PathCond.test C.prog ⟨fn.params.toList, ds, s.plain.varTypes C.prog, gs⟩) = true →
      (DataW.weightsEach C.prog (fn.params.toList ++ s.plain.varTypes C.prog) (ds ++ gs)).all (· ≤ reachBytes) = true → X W args → W.ShapedOpen C.prog →
      a.holds C.prog (lone (Frame.enter C.prog f args .normal) [] W) →
      Calls C.prog f args W fun e W' => ∃ v, e = .returned v ∧ s.post enc C.prog fn apart fresh handsOn again W args v W') :
    ReturnsInHanded a C os f .any (fun w args => (s.pre enc C.prog fn conds apart w args ∧ X w args) ∧ sizedMet enc C.prog fn (OpenSpec.ofChange s) apart w args) (s.post enc C.prog fn apart fresh handsOn again) := by
  refine returnsInHanded_of_calls own started noInit witness ?_
  intro w tape i _ hsh _ hok hpre hholds
  obtain ⟨_, _, _, fn', hfn', _, _, _, _, hval⟩ := hok
  have e : fn' = fn := Option.some.inj (hfn'.symm.trans hfn)
  subst e
  obtain ⟨⟨⟨ds, gs, before, hw, hc⟩, hx⟩, hz⟩ := hpre
  have hw' := DataW.Whole.of_heap (w' := w.forCall tape i) (by rfl) hw
  refine (contract (w.forCall tape i) w.heap.size i.args ds gs before hval hw' hc (hz.weights hw) (hX _ _ _ (by rfl) hx) hsh hholds).mono fun e W' ⟨v, he, hp⟩ => ?_
  subst he
  exact ChangeSpec.post_blind hp
theorem cells_of_cell {W : World} {g : Nat} {v : Value} (h : W.cell? ⟨g, 0, none⟩ = some v) : ∃ c t s, W.heap[g]? = some (.cells c t s) ∧ c[0]? = some v := by
  unfold World.cell? at h
  split at h
  · rename_i c t s hh
    refine ⟨c, t, s, hh, ?_⟩
    simpa using h
  · cases h
theorem tab_ok {W : World} (h : laidMetH Tryz.prog Rows.fnPlaneTextsRow.laid W) (hsh : W.ShapedOpen Tryz.prog) : TabOk W := by
  rw [MakeChecks.laidMetH_plain _ _ _ (by kernel_rfl)] at h
  obtain ⟨ps, ⟨g0, t0, cs0, f0, p0, q0, hg0, ht0, hv0, hd0, ⟨g1, t1, cs1, f1, p1, q1, hg1, ht1, hv1, hd1, ⟨g2, t2, cs2, f2, p2, q2, hg2, ht2, hv2, hd2, ⟨g3, t3, cs3, f3, p3, q3, hg3, ht3, hv3, hd3, ⟨g4, t4, cs4, f4, p4, q4, hg4, ht4, hv4, hd4, ⟨g5, t5, cs5, f5, p5, q5, hg5, ht5, hv5, hd5, ⟨g6, t6, cs6, f6, p6, q6, hg6, ht6, hv6, hd6, _, _⟩, _⟩, _⟩, _⟩, _⟩, _⟩, _⟩, _, _⟩ := h
  have hg : Tryz.prog.globalNamed "internal/strconv.uint64pow10" = some 0 := by kernel_rfl
  have hty : (Tryz.prog.globals[0]?).map (·.type) = some 109 := by kernel_rfl
  obtain rfl := Option.some.inj (hg.symm.trans hg2)
  obtain rfl := Option.some.inj (hty.symm.trans ht2)
  have hc := Lib.cells_of_tab (k := .u64) (zs := Lib.pow10Tab) Tryz.underlying109 Tryz.underlying84 (by kernel_rfl) (by kernel_rfl) hd2
  have iface : ∀ {n : String} {g t f : Nat} {cs : Array Value} {d : DataW Unit} {p : List MemPlace} {nm : String}, (Tryz.prog.globals[g]?).map (·.type) = some 57 → (Tryz.prog.globals[g]?).map (·.type) = some t → Tryz.prog.globalNamed n = some g → W.var? Tryz.prog n = some cs → DataW.trod (fun _ => ()) Tryz.prog W 0 (fun _ => true) false f t cs.toList = some (.iface nm d, p) →
      ∃ c t s, W.heap[g]? = some (.cells c t s) ∧ ∃ ev, c[0]? = some ev ∧ (ev = .nilIface ∨ ∃ te pe, ev = .iface te pe) := fun {n g t f cs d p nm} h1 h2 h3 h4 h5 => by
    have e : 57 = t := Option.some.inj (h1.symm.trans h2)
    subst e
    obtain ⟨_, u, v, hcs, _, _⟩ := iface_of_trod Tryz.underlying57 h5
    unfold World.var? at h4
    rw [h3, Option.bind_some] at h4
    split at h4
    · rename_i c t s hh
      cases h4
      exact ⟨_, _, _, hh, .iface u v, by rw [← Array.getElem?_toList, hcs]; rfl, .inr ⟨_, _, rfl⟩⟩
    · cases h4
  have g1 : Tryz.prog.globalNamed "strconv.ErrSyntax" = some 2 := by kernel_rfl
  have g2 : Tryz.prog.globalNamed "strconv.ErrRange" = some 3 := by kernel_rfl
  obtain rfl := Option.some.inj (g1.symm.trans hg5)
  obtain rfl := Option.some.inj (g2.symm.trans hg4)
  have i1 := iface (by kernel_rfl) ht5 g1 hv5 hd5
  have i2 := iface (by kernel_rfl) ht4 g2 hv4 hd4
  obtain ⟨mm, hmm⟩ := cell_of_shapedOpen_int (g := 1) (t := 3) (zero := #[.int .i64 0]) (k := .i64) hsh (of_decide_eq_true (by kernel_rfl)) (by kernel_rfl) rfl (by kernel_rfl) (by kernel_rfl) Tryz.underlying3
  obtain ⟨mc, mt, ms, mh, m0⟩ := cells_of_cell hmm
  intro x hx
  simp only [tabs, List.mem_cons, List.not_mem_nil, or_false] at hx
  rcases hx with rfl | rfl | rfl | rfl
  · unfold World.var? at hv2
    rw [hg, Option.bind_some] at hv2
    split at hv2
    · rename_i c t s hh
      cases hv2
      exact ⟨_, _, _, hh, Array.ext' (hc.trans (by kernel_rfl))⟩
    · cases hv2
  · exact ⟨mc, mt, ms, mh, mm, m0⟩
  · exact i1
  · exact i2
set_option maxHeartbeats 2000000 in
set_option maxRecDepth 100000 in
theorem lifted (os : Os) (started : os.Started) (H : Type) (enc : TypeId × Value → H) :
    ReturnsInHanded {} Tryz.checked os 3 .any (fun w args => (Rows.fnPlaneTextsSpec.pre enc Tryz.prog Tryz.f3 Rows.fnPlaneTextsRow.domain false w args ∧ laidMetH Tryz.prog Rows.fnPlaneTextsRow.laid w) ∧ sizedMet enc Tryz.prog Tryz.f3 (OpenSpec.ofChange Rows.fnPlaneTextsSpec) false w args) (Rows.fnPlaneTextsSpec.post enc Tryz.prog Tryz.f3 false true false false) := by
  refine andShaped (C := Tryz.checked) (X := fun w _ => laidMetH Tryz.prog Rows.fnPlaneTextsRow.laid w) (fun _ _ _ hh h => h.of_heap hh) own started (by as_aux_lemma => kernel_rfl) Tryz.func3
    (ChangeSpec.witness_shaped (enc := enc) (C := Tryz.checked) (os := os) (X := fun w _ => laidMetH Tryz.prog Rows.fnPlaneTextsRow.laid w) false (World.laidAll Tryz.prog os Rows.fnPlaneTextsRow.laid) #[.slice none 0 0] 8 (World.laidAll_os _ _ _) (World.shaped_of_ZipB (by as_aux_lemma => kernel_rfl) (by as_aux_lemma => kernel_rfl)) (by as_aux_lemma => kernel_rfl) (by as_aux_lemma => kernel_rfl) (by as_aux_lemma => kernel_rfl)
      (by rw [MakeChecks.laidMetH_plain _ _ _ (by kernel_rfl)]; exact laidMet_laidAll _ (by as_aux_lemma => kernel_rfl) (by as_aux_lemma => kernel_rfl))) ?_
  intro W base args ds gs before hval0 hW hcnd _ hL hsh _
  have hval : ∀ (j : Nat) t v, Tryz.f3.params[j]? = some t → args[j]? = some v → Value.okWide Tryz.prog W .any base t v := hval0
  have hW' := hW
  obtain ⟨p, q, hA0, hV, rfl, hfz, hnd⟩ := hW
  have hA : DataW.TrodAll enc Tryz.prog W 0 (fun _ => true) true Tryz.f3.params.toList args.toList ds p := hA0
  rw [Tryz.params3] at hA hval
  obtain ⟨v0, vs0, d0, ds0, p0, q0, hargs, rfl, rfl, h0, r0⟩ := trodAll_cons hA
  obtain ⟨rfl, rfl, rfl⟩ := trodAll_nil r0
  obtain rfl : args = #[v0] := by cases args; simp_all
  obtain ⟨rfl, rfl⟩ := trodVars_none hV
  have k0 := h0
  have lt0 : ∀ x ∈ p0, x.block < W.heap.size := by obtain ⟨m, hm⟩ := k0; exact DataW.trod_lt m _ _ _ hm
  obtain ⟨L0, m0, r_0⟩ := Q.open_bytes (okWide_slice Tryz.underlying22 (hval 0 22 v0 rfl rfl)) h0
  clear hA0 hval0
  obtain ⟨k, hk⟩ := Q.FnPlaneTexts_pure m0
  refine ((G.laws_FnPlaneTexts.ok k).runs _ _ (Q.G_of (F := G.laws_FnPlaneTexts.e k) (Q.dec_cons (Q.dec_bytes L0) Q.dec_nil) hk) _ W (Q.all W) (tab_ok hL hsh) (fun b h => h) rfl (Q.repsL r_0 Q.reps0)).mono fun e W' ⟨v, he, belD, hret⟩ => ?_
  have bel := belD.toBelow
  obtain rfl := Q.ret_true hret
  subst he
  exact ⟨_, rfl, _, _, _, [], _, [], hW', trodAll_mk1 (shut_bool Tryz.underlying4 _), (trodAll_cons_mk (Below.trod laidOut rd22 sz22 k0 bel lt0) trodAll_mk0), rfl, bel.frame _, fun h => by cases h⟩
theorem mk : (Tryz.prog.make == some Rows.fnPlaneTextsRow.make) = true := by rw [Head.makeIs]; rfl
theorem lf : (Rows.fnPlaneTextsRow.lifted == Tryz.prog.liftsFinal) = true := by rw [Head.liftsIs]; rfl
set_option maxHeartbeats 8000000 in
theorem closed : joinedFacts Tryz.prog 3 Tryz.f3 Rows.fnPlaneTextsSpec Rows.fnPlaneTextsRow = true := by
  unfold joinedFacts
  simp only [Bool.and_eq_true]
  repeat' apply And.intro
  all_goals first | with_reducible exact Head.enterIs | with_reducible exact mk | with_reducible exact lf | (as_aux_lemma => kernel_rfl)
theorem over : Rows.fnPlaneTextsRow.holds Tryz.pinned (OpenSpec.ofChange Rows.fnPlaneTextsSpec) :=
  OpenClaim.holds_of_wide 3 Tryz.f3 rfl rfl rfl rfl rfl rfl rfl ⟨rfl, rfl, rfl, rfl, rfl⟩ rfl rfl rfl rfl rfl (by as_aux_lemma => kernel_rfl) Tryz.func3 closed
    (of_decide_eq_true (by as_aux_lemma => kernel_rfl)) (by unfold Func.isWrapper; first | (rw [if_pos (by decide +kernel)]; kernel_rfl) | (rw [if_neg (by decide +kernel)]; exact ⟨rfl, rfl⟩))
    (fun os started H enc _ => lifted os started H enc)
theorem proved : Rows.FnPlaneTextsSaid := over
theorem card : Rows.FnPlaneTextsCardSaid :=
  Claim7.holds_tied_plain_at .later [] [.data, .data, .data, .data, .sentinel, .sentinel, .pinned] true (true, "ae54fc67be065b337622c7bdc18fb30bf29379e5d9a0c07735d02f449438efe3") true
    over (fun _ h => by cases h) (by as_aux_lemma => kernel_rfl) (fun _ h => by cases h) fnPlaneTexts_row_tie rfl ⟨rfl, rfl⟩ (by as_aux_lemma => kernel_rfl) rfl
    (fun f fn hf hfn => by
      obtain rfl : f = 3 := Option.some.inj ((show Tryz.prog.funcNamed "loop.example/g00125/laws.FnPlaneTexts" = some 3 by kernel_rfl).symm.trans hf) |>.symm
      obtain rfl : fn = Tryz.f3 := (Option.some.inj (Tryz.func3.symm.trans hfn)).symm
      exact ⟨by kernel_rfl, fun j t ht => by
        rw [Tryz.params3] at ht
        have hm : t ∈ [22] := by simpa using Array.mem_of_getElem? ht
        have hall : ([22].all fun u => !Tryz.prog.wantsStandIn u) = true := by kernel_rfl
        exact (show Tryz.prog.wantsStandIn t = false by simpa using List.all_eq_true.1 hall t hm)⟩)
    (by as_aux_lemma => kernel_rfl)
#print axioms card
end Go.Proofs.YtalkkenkeilmpaaGreatDoor.fnPlaneTexts
namespace Go.Proofs.YtalkkenkeilmpaaGreatDoor
/-- The row, under a short name, for the claim. -/
theorem fnPlaneTexts_holds : Rows.FnPlaneTextsCardSaid := fnPlaneTexts.card
end Go.Proofs.YtalkkenkeilmpaaGreatDoor


