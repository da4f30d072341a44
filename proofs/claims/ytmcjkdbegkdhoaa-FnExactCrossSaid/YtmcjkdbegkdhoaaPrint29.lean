-- Printed by a program of the session (mkprinter.py, over the kit's print); Lean checks it.
import Derived.Test.YtmcjkdbegkdhoaaPrint0
import Derived.Test.YtmcjkdbegkdhoaaPrint11
import Derived.Test.YtmcjkdbegkdhoaaPrint28
namespace Go.Proofs.Ytmcjkdbegkdhoaa.Print
open Go.RowKit Go.Proofs.YtmcjkdbegkdhoaaW.PrintWords Go.Proofs.YtmcjkdbegkdhoaaW.PrintLast Go.Proofs.YtmcjkdbegkdhoaaW.PrintMore
attribute [local go_sem] max2_int min2_int max_two min_two max_three min_three max_four min_four   -- for this text's walks alone
set_option linter.unusedVariables false
set_option linter.unusedSimpArgs false

/-! ### laws_FnExactCross: function 10 -/
def laws_FnExactCross.f (k : Nat) (a0_0 : Int) (a0_1 : Int) (a0_2 : Int) (a0_3 : Int) (a1_0 : Int) (a1_1 : Int) (a1_2 : Int) (a1_3 : Int) : Option (Bool) := (laws_toPlane.f a0_0 a0_1 a0_2 a0_3).bind fun bt386 => ((laws_toPlane.f a1_0 a1_1 a1_2 a1_3).bind fun bt390 => ((spec_Cross.f k bt386.1 bt386.2.1 bt386.2.2.1 bt386.2.2.2 bt390.1 bt390.2.1 bt390.2.2.1 bt390.2.2.2).bind fun bt394 => ((laws_toPlane.f a0_0 a0_1 a0_2 a0_3).bind fun bt398 => ((laws_toPlane.f a1_0 a1_1 a1_2 a1_3).bind fun bt402 => ((impl_Cross.f k bt398.1 bt398.2.1 bt398.2.2.1 bt398.2.2.2 bt402.1 bt402.2.1 bt402.2.2.1 bt402.2.2.2).bind fun bt406 => ((laws_eqIntA3.f k bt406.1 bt406.2.1 bt406.2.2 bt394.1 bt394.2.1 bt394.2.2).bind fun t410 => (if t410 = true then (some true) else (some false))))))))
theorem laws_FnExactCross.mono : ∀ a0 a1 a2 a3 a4 a5 a6 a7 k, LeO (laws_FnExactCross.f k a0 a1 a2 a3 a4 a5 a6 a7) (laws_FnExactCross.f (k + 1) a0 a1 a2 a3 a4 a5 a6 a7) := by
  intro a0 a1 a2 a3 a4 a5 a6 a7 k
  unfold laws_FnExactCross.f
  repeat' first
      | (with_reducible exact impl_Cross.mono _ _ _ _ _ _ _ _ _)
      | (with_reducible exact laws_eqIntA3.mono _ _ _ _ _ _ _)
      | (with_reducible exact spec_Cross.mono _ _ _ _ _ _ _ _ _)
      | (with_reducible exact LeO.refl _)
      | (with_reducible exact LeO.none _)
      | (with_reducible refine LeO.ite ?_ ?_)
      | (with_reducible refine LeO.bind ?_ (fun _ => ?_))
      | exact impl_Cross.mono _ _ _ _ _ _ _ _ _
      | exact laws_eqIntA3.mono _ _ _ _ _ _ _
      | exact spec_Cross.mono _ _ _ _ _ _ _ _ _
      | exact LeO.none _
      | refine LeO.ite ?_ ?_
      | refine LeO.bind ?_ (fun _ => ?_)
def laws_FnExactCross.T1 : Bool × List (List Nat × List Nat) := (true, [([], []), ([0], [0]), ([], []), ([2, 1], [2]), ([1, 3, 3], [1, 3]), ([], []), ([5, 4, 4, 0, 1, 2, 3, 4, 5], [4, 5])])
def laws_FnExactCross.B1 : List Nat := [0, 1, 0, 7, 15, 0, 63]
theorem laws_FnExactCross.tab1 : rtab .any (opsOf Try.f10 1) = laws_FnExactCross.T1 := by kernel_rfl
theorem laws_FnExactCross.bits1 : waitsOk laws_FnExactCross.T1.2 laws_FnExactCross.B1 = true := by kernel_rfl
def laws_FnExactCross.T2 : Bool × List (List Nat × List Nat) := (true, [([], []), ([0], [0]), ([], []), ([2, 1], [2]), ([1, 3, 3], [1, 3]), ([], []), ([5, 4, 4, 0, 1, 2, 3, 4, 5], [4, 5])])
def laws_FnExactCross.B2 : List Nat := [0, 1, 0, 7, 15, 0, 63]
theorem laws_FnExactCross.tab2 : rtab .any (opsOf Try.f10 2) = laws_FnExactCross.T2 := by kernel_rfl
theorem laws_FnExactCross.bits2 : waitsOk laws_FnExactCross.T2.2 laws_FnExactCross.B2 = true := by kernel_rfl
set_option maxHeartbeats 8000000 in
set_option maxRecDepth 100000 in
theorem laws_FnExactCross.calls (k : Nat) (a0_0 : Int) (a0_1 : Int) (a0_2 : Int) (a0_3 : Int) (a1_0 : Int) (a1_1 : Int) (a1_2 : Int) (a1_3 : Int) (r : Bool) (w : World) (h : laws_FnExactCross.f k a0_0 a0_1 a0_2 a0_3 a1_0 a1_1 a1_2 a1_3 = some r) :
    Calls Try.prog 10 #[.agg #[.int .i64 a0_0, .int .i64 a0_1, .int .i64 a0_2, .int .i64 a0_3], .agg #[.int .i64 a1_0, .int .i64 a1_1, .int .i64 a1_2, .int .i64 a1_3]] w fun e w' => e = .returned (.bool r) ∧ Below w.heap.size w w' := by
  have hu36 := Try.underlying36
  have hu54 := Try.underlying54
  have HB := Aside0.mk (Below.refl w.heap.size w)
  have H : ((laws_toPlane.f a0_0 a0_1 a0_2 a0_3).bind fun bt386 => ((laws_toPlane.f a1_0 a1_1 a1_2 a1_3).bind fun bt390 => ((spec_Cross.f k bt386.1 bt386.2.1 bt386.2.2.1 bt386.2.2.2 bt390.1 bt390.2.1 bt390.2.2.1 bt390.2.2.2).bind fun bt394 => ((laws_toPlane.f a0_0 a0_1 a0_2 a0_3).bind fun bt398 => ((laws_toPlane.f a1_0 a1_1 a1_2 a1_3).bind fun bt402 => ((impl_Cross.f k bt398.1 bt398.2.1 bt398.2.2.1 bt398.2.2.2 bt402.1 bt402.2.1 bt402.2.2.1 bt402.2.2.2).bind fun bt406 => ((laws_eqIntA3.f k bt406.1 bt406.2.1 bt406.2.2 bt394.1 bt394.2.1 bt394.2.2).bind fun t410 => (if t410 = true then (some true) else (some false))))))))) = some r := h
  clear h
  replace H := Option.bind_eq_some_iff.mp H
  obtain ⟨⟨t386, t387, t388, t389⟩, A30, H⟩ := H
  replace H : ((laws_toPlane.f a1_0 a1_1 a1_2 a1_3).bind fun bt390 => ((spec_Cross.f k t386 t387 t388 t389 bt390.1 bt390.2.1 bt390.2.2.1 bt390.2.2.2).bind fun bt394 => ((laws_toPlane.f a0_0 a0_1 a0_2 a0_3).bind fun bt398 => ((laws_toPlane.f a1_0 a1_1 a1_2 a1_3).bind fun bt402 => ((impl_Cross.f k bt398.1 bt398.2.1 bt398.2.2.1 bt398.2.2.2 bt402.1 bt402.2.1 bt402.2.2.1 bt402.2.2.2).bind fun bt406 => ((laws_eqIntA3.f k bt406.1 bt406.2.1 bt406.2.2 bt394.1 bt394.2.1 bt394.2.2).bind fun t410 => (if t410 = true then (some true) else (some false)))))))) = some r := H
  have A3 := Aside0.mk A30
  clear A30
  replace H := Option.bind_eq_some_iff.mp H
  obtain ⟨⟨t390, t391, t392, t393⟩, A40, H⟩ := H
  replace H : ((spec_Cross.f k t386 t387 t388 t389 t390 t391 t392 t393).bind fun bt394 => ((laws_toPlane.f a0_0 a0_1 a0_2 a0_3).bind fun bt398 => ((laws_toPlane.f a1_0 a1_1 a1_2 a1_3).bind fun bt402 => ((impl_Cross.f k bt398.1 bt398.2.1 bt398.2.2.1 bt398.2.2.2 bt402.1 bt402.2.1 bt402.2.2.1 bt402.2.2.2).bind fun bt406 => ((laws_eqIntA3.f k bt406.1 bt406.2.1 bt406.2.2 bt394.1 bt394.2.1 bt394.2.2).bind fun t410 => (if t410 = true then (some true) else (some false))))))) = some r := H
  have A4 := Aside0.mk A40
  clear A40
  replace H := Option.bind_eq_some_iff.mp H
  obtain ⟨⟨t394, t395, t396⟩, A50, H⟩ := H
  replace H : ((laws_toPlane.f a0_0 a0_1 a0_2 a0_3).bind fun bt398 => ((laws_toPlane.f a1_0 a1_1 a1_2 a1_3).bind fun bt402 => ((impl_Cross.f k bt398.1 bt398.2.1 bt398.2.2.1 bt398.2.2.2 bt402.1 bt402.2.1 bt402.2.2.1 bt402.2.2.2).bind fun bt406 => ((laws_eqIntA3.f k bt406.1 bt406.2.1 bt406.2.2 t394 t395 t396).bind fun t410 => (if t410 = true then (some true) else (some false)))))) = some r := H
  have A5 := Aside0.mk A50
  clear A50
  replace H := Option.bind_eq_some_iff.mp H
  obtain ⟨⟨t398, t399, t400, t401⟩, A60, H⟩ := H
  replace H : ((laws_toPlane.f a1_0 a1_1 a1_2 a1_3).bind fun bt402 => ((impl_Cross.f k t398 t399 t400 t401 bt402.1 bt402.2.1 bt402.2.2.1 bt402.2.2.2).bind fun bt406 => ((laws_eqIntA3.f k bt406.1 bt406.2.1 bt406.2.2 t394 t395 t396).bind fun t410 => (if t410 = true then (some true) else (some false))))) = some r := H
  have A6 := Aside0.mk A60
  clear A60
  replace H := Option.bind_eq_some_iff.mp H
  obtain ⟨⟨t402, t403, t404, t405⟩, A70, H⟩ := H
  replace H : ((impl_Cross.f k t398 t399 t400 t401 t402 t403 t404 t405).bind fun bt406 => ((laws_eqIntA3.f k bt406.1 bt406.2.1 bt406.2.2 t394 t395 t396).bind fun t410 => (if t410 = true then (some true) else (some false)))) = some r := H
  have A7 := Aside0.mk A70
  clear A70
  replace H := Option.bind_eq_some_iff.mp H
  obtain ⟨⟨t406, t407, t408⟩, A80, H⟩ := H
  replace H : ((laws_eqIntA3.f k t406 t407 t408 t394 t395 t396).bind fun t410 => (if t410 = true then (some true) else (some false))) = some r := H
  have A8 := Aside0.mk A80
  clear A80
  replace H := Option.bind_eq_some_iff.mp H
  obtain ⟨t410, A90, H⟩ := H
  replace H : (if t410 = true then (some true) else (some false)) = some r := H
  have A9 := Aside0.mk A90
  clear A90
  by_cases c10 : t410 = true
  · subst c10
    have H1 : (some true) = some r := by rw [if_pos rfl] at H; exact H
    clear H
    have H := H1
    clear H1
    obtain rfl := Option.some.inj H
    go_enter Try.func10, Try.ntmps10
    try go_wp2_with (first | ((with_reducible refine gate_dst (N := 2) rfl ?_); refine box_event ?hg (N := 2) ?hd (cs := #[.int .i64 a0_0, .int .i64 a0_1, .int .i64 a0_2, .int .i64 a0_3]) (t := 36) ?hr ?_; (case hd => rfl); (case hg => rfl); (case hr => first | (go_simp; done) | (go_simp; rfl)); intro gb384 hg w11 hbox hb; have n0_ := Aside0.mk (below_step (by repeat (first | (with_reducible first | exact HB.out | apply below_alloc | apply pw_below_drewN | apply below_drew1) | exact HB.out)) hb); have n1_ := Aside0.mk (hbox); have n2_ := Aside0.mk ((by rw [hg]; exact (below_size (by repeat (first | (with_reducible first | exact HB.out | apply below_alloc | apply pw_below_drewN | apply below_drew1) | exact HB.out))) : w.heap.size ≤ gb384)); have n3_ := Aside0.mk ((by rw [hg]; exact (below_size (by repeat (first | (with_reducible first | exact HB.out | apply below_alloc | apply pw_below_drewN | apply below_drew1) | exact HB.out))) : w.heap.size ≤ gb384)); clear HB; have HB := n0_; have BK384 := n1_; have GW384 := n2_; have GE384 := n3_; clear n0_ n1_ n2_ n3_; clear hb hbox hg) | ((with_reducible refine gate_dst (N := 3) rfl ?_); refine box_event ?hg (N := 3) ?hd (cs := #[.int .i64 a1_0, .int .i64 a1_1, .int .i64 a1_2, .int .i64 a1_3]) (t := 36) ?hr ?_; (case hd => rfl); (case hg => rfl); (case hr => first | (go_simp; done) | (go_simp; rfl)); intro gb385 hg w12 hbox hb; have n0_ := Aside0.mk (blk_below (g := gb384) (o := .cells #[.int .i64 a0_0, .int .i64 a0_1, .int .i64 a0_2, .int .i64 a0_3] 36 (0, 0)) (by (with_reducible repeat (first | refine blk_drewN ?_ _ | refine blk_drew ?_ | refine blk_alloc ?_ _)); exact BK384.out) hb); have n1_ := Aside0.mk (below_step (by repeat (first | (with_reducible first | exact HB.out | apply below_alloc | apply pw_below_drewN | apply below_drew1 | refine below_set ?_ GE384.out) | exact HB.out)) hb); have n2_ := Aside0.mk (hbox); have n3_ := Aside0.mk ((by rw [hg]; exact (below_size (by repeat (first | (with_reducible first | exact HB.out | apply below_alloc | apply pw_below_drewN | apply below_drew1 | refine below_set ?_ GE384.out) | exact HB.out))) : w.heap.size ≤ gb385)); have n4_ := Aside0.mk ((by rw [hg]; exact (below_size (by repeat (first | (with_reducible first | exact HB.out | apply below_alloc | apply pw_below_drewN | apply below_drew1 | refine below_set ?_ GE384.out) | exact HB.out))) : w.heap.size ≤ gb385)); have n5_ := Aside0.mk ((by rw [hg]; exact Nat.ne_of_lt (blk_lt (g := gb384) (o := .cells #[.int .i64 a0_0, .int .i64 a0_1, .int .i64 a0_2, .int .i64 a0_3] 36 (0, 0)) (by (with_reducible repeat (first | refine blk_drewN ?_ _ | refine blk_drew ?_ | refine blk_alloc ?_ _)); exact BK384.out)) : gb384 ≠ gb385)); have n6_ := Aside0.mk ((by rw [hg]; exact Nat.ne_of_gt (blk_lt (g := gb384) (o := .cells #[.int .i64 a0_0, .int .i64 a0_1, .int .i64 a0_2, .int .i64 a0_3] 36 (0, 0)) (by (with_reducible repeat (first | refine blk_drewN ?_ _ | refine blk_drew ?_ | refine blk_alloc ?_ _)); exact BK384.out)) : gb385 ≠ gb384)); clear BK384; clear HB; have BK384 := n0_; have HB := n1_; have BK385 := n2_; have GW385 := n3_; have GE385 := n4_; have NB384_385 := n5_; have NB385_384 := n6_; clear n0_ n1_ n2_ n3_ n4_ n5_ n6_; clear hb hbox hg))
    have n0_ := Aside0.mk (blk_drew BK384.out)
    have n1_ := Aside0.mk (blk_drew BK385.out)
    have n2_ := Aside0.mk (below_drew1 HB.out)
    clear BK384
    clear BK385
    clear HB
    have BK384 := n0_
    have BK385 := n1_
    have HB := n2_
    clear n0_ n1_ n2_
    refine start_ (n := 7) (S := fun w' => True) (ds := []) #[false, false, false, false, false, false, false] (by kernel_rfl) rfl rfl trivial (fun hHeld => ?_); refine with_tabW laws_FnExactCross.tab1 laws_FnExactCross.bits1 (fun HT_ HW_ => ?_)
    generalize w12.drew = w13 at BK384 BK385 HB hHeld ⊢
    refine inv_at [0, 1, 2, 3, 4, 5, 6] (fun a0_ b a w' => ∃ (gb397 : Nat) (m5_ : Value), a = putSel a0_ b [(0, 7, .agg #[.int .i64 a0_0, .int .i64 a0_1, .int .i64 a0_2, .int .i64 a0_3]), (1, 8, .agg #[.int .i64 t386, .int .i64 t387, .int .i64 t388, .int .i64 t389]), (2, 9, .agg #[.int .i64 a1_0, .int .i64 a1_1, .int .i64 a1_2, .int .i64 a1_3]), (3, 10, .agg #[.int .i64 t390, .int .i64 t391, .int .i64 t392, .int .i64 t393]), (4, 11, .agg #[.int .i64 t394, .int .i64 t395, .int .i64 t396]), (5, 5, m5_)] ∧ (w'.heap[gb384]? = some (.cells #[.int .i64 a0_0, .int .i64 a0_1, .int .i64 a0_2, .int .i64 a0_3] 36 (0, 0))) ∧ (w'.heap[gb385]? = some (.cells #[.int .i64 a1_0, .int .i64 a1_1, .int .i64 a1_2, .int .i64 a1_3] 36 (0, 0))) ∧ (Below w.heap.size w w') ∧ (b 5 = true → b 6 = false → w'.heap[gb397]? = some (.cells #[.int .i64 0, .int .i64 0, .int .i64 0] 54 (0, 0))) ∧ (b 5 = true → w.heap.size ≤ gb397) ∧ (b 5 = true → w.heap.size ≤ gb397) ∧ (b 5 = true → gb384 ≠ gb397) ∧ (b 5 = true → gb397 ≠ gb384) ∧ (b 5 = true → gb385 ≠ gb397) ∧ (b 5 = true → gb397 ≠ gb385) ∧ (b 6 = true → w'.heap[gb397]? = some (.cells #[.int .i64 t394, .int .i64 t395, .int .i64 t396] 54 (0, 0))) ∧ (b 5 = true → (m5_ : Value) = .pointer (some ⟨gb397, 0, none⟩))) HT_.out HW_.out (by kernel_rfl) (by kernel_rfl) ?_ ?_ ?_
    · exact ⟨0, .bool false, by simp only [putSel, Bool.false_eq_true, if_false], BK384.out, BK385.out, HB.out, fun h_ => absurd h_ (by decide), fun h_ => absurd h_ (by decide), fun h_ => absurd h_ (by decide), fun h_ => absurd h_ (by decide), fun h_ => absurd h_ (by decide), fun h_ => absurd h_ (by decide), fun h_ => absurd h_ (by decide), fun h_ => absurd h_ (by decide), fun h_ => absurd h_ (by decide)⟩
    · skip
      clear BK384 BK385 HB
      refine steps_cons ?_ ?_
      · rintro b a w' ⟨gb397, m5_, ha, Q_BK384, Q_BK385, Q_HB, Q_BK397, Q_GW397, Q_GE397, Q_NB384_397, Q_NB397_384, Q_NB385_397, Q_NB397_385, Q_BK397_e6, Q_X5_⟩ hb_ hon hoff
        refine ⟨_, rfl, fun K hK => ?_⟩
        have e2 : a.tmps[2]? = some (.pointer (some ⟨gb384, 0, none⟩)) := by rw [ha]; exact (putSel_off rfl).trans rfl
        replace ha := Aside0.mk ha
        have BK384 := Aside0.mk Q_BK384
        have BK385 := Aside0.mk Q_BK385
        have HB := Aside0.mk Q_HB
        have hc0_ : w'.cell? ⟨gb384, 0, none⟩ = some (.int .i64 a0_0) := (blk_cell BK384.out 0).trans rfl
        have hc1_ : w'.cell? ⟨gb384, 1, none⟩ = some (.int .i64 a0_1) := (blk_cell BK384.out 1).trans rfl
        have hc2_ : w'.cell? ⟨gb384, 2, none⟩ = some (.int .i64 a0_2) := (blk_cell BK384.out 2).trans rfl
        have hc3_ : w'.cell? ⟨gb384, 3, none⟩ = some (.int .i64 a0_3) := (blk_cell BK384.out 3).trans rfl
        refine value_ (w1 := w') (v := .agg #[.int .i64 a0_0, .int .i64 a0_1, .int .i64 a0_2, .int .i64 a0_3]) (by rfl) rfl ?_ ?_
        · go_simp
          (try simp only [i64_w])
          try rfl
        refine hK.out _ _ ⟨gb397, m5_, (by rw [ha.out]; exact putSel_upk 0 hb_ rfl rfl rfl), Q_BK384, Q_BK385, Q_HB, Q_BK397, Q_GW397, Q_GE397, Q_NB384_397, Q_NB397_384, Q_NB385_397, Q_NB397_385, fun h0_ => absurd ((hoff 6 (by kernel_rfl)).symm.trans h0_) (by decide), Q_X5_⟩
      refine steps_cons ?_ ?_
      · rintro b a w' ⟨gb397, m5_, ha, Q_BK384, Q_BK385, Q_HB, Q_BK397, Q_GW397, Q_GE397, Q_NB384_397, Q_NB397_384, Q_NB385_397, Q_NB397_385, Q_BK397_e6, Q_X5_⟩ hb_ hon hoff
        refine ⟨_, rfl, fun K hK => ?_⟩
        have e7 : a.tmps[7]? = some (.agg #[.int .i64 a0_0, .int .i64 a0_1, .int .i64 a0_2, .int .i64 a0_3]) := by rw [ha]; exact putSel_on (e := (0, 7, .agg #[.int .i64 a0_0, .int .i64 a0_1, .int .i64 a0_2, .int .i64 a0_3])) 0 rfl rfl (hon 0 (by kernel_rfl)) rfl
        replace ha := Aside0.mk ha
        have BK384 := Aside0.mk Q_BK384
        have BK385 := Aside0.mk Q_BK385
        have HB := Aside0.mk Q_HB
        refine goes_ Try.func36 (by kernel_rfl) rfl #[.agg #[.int .i64 a0_0, .int .i64 a0_1, .int .i64 a0_2, .int .i64 a0_3]] (by rfl) rfl rfl (by first | (simp only [List.map_toArray, List.map_cons, List.map_nil, Act.eval, Array.getD_eq_getD_getElem?, Option.getD_some, e7]; done) | (simp only [List.map_toArray, List.map_cons, List.map_nil, Act.eval, Array.getD_eq_getD_getElem?, Option.getD_some, e7]; rfl)) ?_
        with_reducible refine (laws_toPlane.calls a0_0 a0_1 a0_2 a0_3 t386 t387 t388 t389 _ A3.out).mono ?_
        rintro e w14 ⟨rfl, hb⟩
        refine ⟨_, rfl, ?_⟩
        have n0_ := Aside0.mk (blk_below (g := gb384) (o := .cells #[.int .i64 a0_0, .int .i64 a0_1, .int .i64 a0_2, .int .i64 a0_3] 36 (0, 0)) (by (with_reducible repeat (first | refine blk_drewN ?_ _ | refine blk_drew ?_ | refine blk_alloc ?_ _)); exact BK384.out) hb)
        have n1_ := Aside0.mk (blk_below (g := gb385) (o := .cells #[.int .i64 a1_0, .int .i64 a1_1, .int .i64 a1_2, .int .i64 a1_3] 36 (0, 0)) (by (with_reducible repeat (first | refine blk_drewN ?_ _ | refine blk_drew ?_ | refine blk_alloc ?_ _)); exact BK385.out) hb)
        have n2_ := Aside0.mk (below_step (by repeat (first | (with_reducible first | exact HB.out | apply below_alloc | apply pw_below_drewN | apply below_drew1 | refine below_set ?_ GE384.out | refine below_set ?_ GE385.out) | exact HB.out)) hb)
        have z_BK397 := fun (h0_ : b 5 = true) (h1_ : b 6 = false) => (show w14.heap[gb397]? = some (.cells #[.int .i64 0, .int .i64 0, .int .i64 0] 54 (0, 0)) from by first | exact (blk_below (g := gb397) (o := .cells #[.int .i64 0, .int .i64 0, .int .i64 0] 54 (0, 0)) (by (with_reducible repeat (first | refine blk_drewN ?_ _ | refine blk_drew ?_ | refine blk_alloc ?_ _)); exact (Q_BK397 h0_ h1_)) hb))
        clear BK384
        clear BK385
        clear HB
        have BK384 := n0_
        have BK385 := n1_
        have HB := n2_
        clear n0_ n1_ n2_
        (try clear hb)
        (try clear hb2)
        (try clear hk)
        (try clear hi)
        refine hK.out _ _ ⟨gb397, m5_, (by rw [ha.out]; exact putSel_upk 1 hb_ rfl rfl rfl), (by (with_reducible repeat (first | refine blk_drewN ?_ _ | refine blk_drew ?_ | refine blk_alloc ?_ _)); exact BK384.out), (by (with_reducible repeat (first | refine blk_drewN ?_ _ | refine blk_drew ?_ | refine blk_alloc ?_ _)); exact BK385.out), (by repeat (first | (with_reducible first | exact HB.out | apply below_alloc | apply pw_below_drewN | apply below_drew1 | refine below_set ?_ GE384.out | refine below_set ?_ GE385.out) | exact HB.out)), z_BK397, Q_GW397, Q_GE397, Q_NB384_397, Q_NB397_384, Q_NB385_397, Q_NB397_385, fun h0_ => absurd ((hoff 6 (by kernel_rfl)).symm.trans h0_) (by decide), Q_X5_⟩
      refine steps_cons ?_ ?_
      · rintro b a w' ⟨gb397, m5_, ha, Q_BK384, Q_BK385, Q_HB, Q_BK397, Q_GW397, Q_GE397, Q_NB384_397, Q_NB397_384, Q_NB385_397, Q_NB397_385, Q_BK397_e6, Q_X5_⟩ hb_ hon hoff
        refine ⟨_, rfl, fun K hK => ?_⟩
        have e3 : a.tmps[3]? = some (.pointer (some ⟨gb385, 0, none⟩)) := by rw [ha]; exact (putSel_off rfl).trans rfl
        replace ha := Aside0.mk ha
        have BK384 := Aside0.mk Q_BK384
        have BK385 := Aside0.mk Q_BK385
        have HB := Aside0.mk Q_HB
        have hc0_ : w'.cell? ⟨gb385, 0, none⟩ = some (.int .i64 a1_0) := (blk_cell BK385.out 0).trans rfl
        have hc1_ : w'.cell? ⟨gb385, 1, none⟩ = some (.int .i64 a1_1) := (blk_cell BK385.out 1).trans rfl
        have hc2_ : w'.cell? ⟨gb385, 2, none⟩ = some (.int .i64 a1_2) := (blk_cell BK385.out 2).trans rfl
        have hc3_ : w'.cell? ⟨gb385, 3, none⟩ = some (.int .i64 a1_3) := (blk_cell BK385.out 3).trans rfl
        refine value_ (w1 := w') (v := .agg #[.int .i64 a1_0, .int .i64 a1_1, .int .i64 a1_2, .int .i64 a1_3]) (by rfl) rfl ?_ ?_
        · go_simp
          (try simp only [i64_w])
          try rfl
        refine hK.out _ _ ⟨gb397, m5_, (by rw [ha.out]; exact putSel_upk 2 hb_ rfl rfl rfl), Q_BK384, Q_BK385, Q_HB, Q_BK397, Q_GW397, Q_GE397, Q_NB384_397, Q_NB397_384, Q_NB385_397, Q_NB397_385, fun h0_ => absurd ((hoff 6 (by kernel_rfl)).symm.trans h0_) (by decide), Q_X5_⟩
      refine steps_cons ?_ ?_
      · rintro b a w' ⟨gb397, m5_, ha, Q_BK384, Q_BK385, Q_HB, Q_BK397, Q_GW397, Q_GE397, Q_NB384_397, Q_NB397_384, Q_NB385_397, Q_NB397_385, Q_BK397_e6, Q_X5_⟩ hb_ hon hoff
        refine ⟨_, rfl, fun K hK => ?_⟩
        have e9 : a.tmps[9]? = some (.agg #[.int .i64 a1_0, .int .i64 a1_1, .int .i64 a1_2, .int .i64 a1_3]) := by rw [ha]; exact putSel_on (e := (2, 9, .agg #[.int .i64 a1_0, .int .i64 a1_1, .int .i64 a1_2, .int .i64 a1_3])) 2 rfl rfl (hon 2 (by kernel_rfl)) rfl
        replace ha := Aside0.mk ha
        have BK384 := Aside0.mk Q_BK384
        have BK385 := Aside0.mk Q_BK385
        have HB := Aside0.mk Q_HB
        refine goes_ Try.func36 (by kernel_rfl) rfl #[.agg #[.int .i64 a1_0, .int .i64 a1_1, .int .i64 a1_2, .int .i64 a1_3]] (by rfl) rfl rfl (by first | (simp only [List.map_toArray, List.map_cons, List.map_nil, Act.eval, Array.getD_eq_getD_getElem?, Option.getD_some, e9]; done) | (simp only [List.map_toArray, List.map_cons, List.map_nil, Act.eval, Array.getD_eq_getD_getElem?, Option.getD_some, e9]; rfl)) ?_
        with_reducible refine (laws_toPlane.calls a1_0 a1_1 a1_2 a1_3 t390 t391 t392 t393 _ A4.out).mono ?_
        rintro e w16 ⟨rfl, hb⟩
        refine ⟨_, rfl, ?_⟩
        have n0_ := Aside0.mk (blk_below (g := gb384) (o := .cells #[.int .i64 a0_0, .int .i64 a0_1, .int .i64 a0_2, .int .i64 a0_3] 36 (0, 0)) (by (with_reducible repeat (first | refine blk_drewN ?_ _ | refine blk_drew ?_ | refine blk_alloc ?_ _)); exact BK384.out) hb)
        have n1_ := Aside0.mk (blk_below (g := gb385) (o := .cells #[.int .i64 a1_0, .int .i64 a1_1, .int .i64 a1_2, .int .i64 a1_3] 36 (0, 0)) (by (with_reducible repeat (first | refine blk_drewN ?_ _ | refine blk_drew ?_ | refine blk_alloc ?_ _)); exact BK385.out) hb)
        have n2_ := Aside0.mk (below_step (by repeat (first | (with_reducible first | exact HB.out | apply below_alloc | apply pw_below_drewN | apply below_drew1 | refine below_set ?_ GE384.out | refine below_set ?_ GE385.out) | exact HB.out)) hb)
        have z_BK397 := fun (h0_ : b 5 = true) (h1_ : b 6 = false) => (show w16.heap[gb397]? = some (.cells #[.int .i64 0, .int .i64 0, .int .i64 0] 54 (0, 0)) from by first | exact (blk_below (g := gb397) (o := .cells #[.int .i64 0, .int .i64 0, .int .i64 0] 54 (0, 0)) (by (with_reducible repeat (first | refine blk_drewN ?_ _ | refine blk_drew ?_ | refine blk_alloc ?_ _)); exact (Q_BK397 h0_ h1_)) hb))
        clear BK384
        clear BK385
        clear HB
        have BK384 := n0_
        have BK385 := n1_
        have HB := n2_
        clear n0_ n1_ n2_
        (try clear hb)
        (try clear hb2)
        (try clear hk)
        (try clear hi)
        refine hK.out _ _ ⟨gb397, m5_, (by rw [ha.out]; exact putSel_upk 3 hb_ rfl rfl rfl), (by (with_reducible repeat (first | refine blk_drewN ?_ _ | refine blk_drew ?_ | refine blk_alloc ?_ _)); exact BK384.out), (by (with_reducible repeat (first | refine blk_drewN ?_ _ | refine blk_drew ?_ | refine blk_alloc ?_ _)); exact BK385.out), (by repeat (first | (with_reducible first | exact HB.out | apply below_alloc | apply pw_below_drewN | apply below_drew1 | refine below_set ?_ GE384.out | refine below_set ?_ GE385.out) | exact HB.out)), z_BK397, Q_GW397, Q_GE397, Q_NB384_397, Q_NB397_384, Q_NB385_397, Q_NB397_385, fun h0_ => absurd ((hoff 6 (by kernel_rfl)).symm.trans h0_) (by decide), Q_X5_⟩
      refine steps_cons ?_ ?_
      · rintro b a w' ⟨gb397, m5_, ha, Q_BK384, Q_BK385, Q_HB, Q_BK397, Q_GW397, Q_GE397, Q_NB384_397, Q_NB397_384, Q_NB385_397, Q_NB397_385, Q_BK397_e6, Q_X5_⟩ hb_ hon hoff
        refine ⟨_, rfl, fun K hK => ?_⟩
        have e8 : a.tmps[8]? = some (.agg #[.int .i64 t386, .int .i64 t387, .int .i64 t388, .int .i64 t389]) := by rw [ha]; exact putSel_on (e := (1, 8, .agg #[.int .i64 t386, .int .i64 t387, .int .i64 t388, .int .i64 t389])) 1 rfl rfl (hon 1 (by kernel_rfl)) rfl
        have e10 : a.tmps[10]? = some (.agg #[.int .i64 t390, .int .i64 t391, .int .i64 t392, .int .i64 t393]) := by rw [ha]; exact putSel_on (e := (3, 10, .agg #[.int .i64 t390, .int .i64 t391, .int .i64 t392, .int .i64 t393])) 3 rfl rfl (hon 3 (by kernel_rfl)) rfl
        replace ha := Aside0.mk ha
        have BK384 := Aside0.mk Q_BK384
        have BK385 := Aside0.mk Q_BK385
        have HB := Aside0.mk Q_HB
        refine goes_ Try.func48 (by kernel_rfl) rfl #[.agg #[.int .i64 t386, .int .i64 t387, .int .i64 t388, .int .i64 t389], .agg #[.int .i64 t390, .int .i64 t391, .int .i64 t392, .int .i64 t393]] (by rfl) rfl rfl (by first | (simp only [List.map_toArray, List.map_cons, List.map_nil, Act.eval, Array.getD_eq_getD_getElem?, Option.getD_some, e8, e10]; done) | (simp only [List.map_toArray, List.map_cons, List.map_nil, Act.eval, Array.getD_eq_getD_getElem?, Option.getD_some, e8, e10]; rfl)) ?_
        with_reducible refine (spec_Cross.calls k t386 t387 t388 t389 t390 t391 t392 t393 t394 t395 t396 _ A5.out).mono ?_
        rintro e w17 ⟨rfl, hb⟩
        refine ⟨_, rfl, ?_⟩
        have n0_ := Aside0.mk (blk_below (g := gb384) (o := .cells #[.int .i64 a0_0, .int .i64 a0_1, .int .i64 a0_2, .int .i64 a0_3] 36 (0, 0)) (by (with_reducible repeat (first | refine blk_drewN ?_ _ | refine blk_drew ?_ | refine blk_alloc ?_ _)); exact BK384.out) hb)
        have n1_ := Aside0.mk (blk_below (g := gb385) (o := .cells #[.int .i64 a1_0, .int .i64 a1_1, .int .i64 a1_2, .int .i64 a1_3] 36 (0, 0)) (by (with_reducible repeat (first | refine blk_drewN ?_ _ | refine blk_drew ?_ | refine blk_alloc ?_ _)); exact BK385.out) hb)
        have n2_ := Aside0.mk (below_step (by repeat (first | (with_reducible first | exact HB.out | apply below_alloc | apply pw_below_drewN | apply below_drew1 | refine below_set ?_ GE384.out | refine below_set ?_ GE385.out) | exact HB.out)) hb)
        have z_BK397 := fun (h0_ : b 5 = true) (h1_ : b 6 = false) => (show w17.heap[gb397]? = some (.cells #[.int .i64 0, .int .i64 0, .int .i64 0] 54 (0, 0)) from by first | exact (blk_below (g := gb397) (o := .cells #[.int .i64 0, .int .i64 0, .int .i64 0] 54 (0, 0)) (by (with_reducible repeat (first | refine blk_drewN ?_ _ | refine blk_drew ?_ | refine blk_alloc ?_ _)); exact (Q_BK397 h0_ h1_)) hb))
        clear BK384
        clear BK385
        clear HB
        have BK384 := n0_
        have BK385 := n1_
        have HB := n2_
        clear n0_ n1_ n2_
        (try clear hb)
        (try clear hb2)
        (try clear hk)
        (try clear hi)
        refine hK.out _ _ ⟨gb397, m5_, (by rw [ha.out]; exact putSel_upk 4 hb_ rfl rfl rfl), (by (with_reducible repeat (first | refine blk_drewN ?_ _ | refine blk_drew ?_ | refine blk_alloc ?_ _)); exact BK384.out), (by (with_reducible repeat (first | refine blk_drewN ?_ _ | refine blk_drew ?_ | refine blk_alloc ?_ _)); exact BK385.out), (by repeat (first | (with_reducible first | exact HB.out | apply below_alloc | apply pw_below_drewN | apply below_drew1 | refine below_set ?_ GE384.out | refine below_set ?_ GE385.out) | exact HB.out)), z_BK397, Q_GW397, Q_GE397, Q_NB384_397, Q_NB397_384, Q_NB385_397, Q_NB397_385, fun h0_ => absurd ((hoff 6 (by kernel_rfl)).symm.trans h0_) (by decide), Q_X5_⟩
      refine steps_cons ?_ ?_
      · rintro b a w' ⟨gb397, m5_, ha, Q_BK384, Q_BK385, Q_HB, Q_BK397, Q_GW397, Q_GE397, Q_NB384_397, Q_NB397_384, Q_NB385_397, Q_NB397_385, Q_BK397_e6, Q_X5_⟩ hb_ hon hoff
        refine ⟨_, rfl, fun K hK => ?_⟩
        replace ha := Aside0.mk ha
        have BK384 := Aside0.mk Q_BK384
        have BK385 := Aside0.mk Q_BK385
        have HB := Aside0.mk Q_HB
        refine box_step ?hg (N := 5) ?hd (cs := #[.int .i64 0, .int .i64 0, .int .i64 0]) (t := 54) ?hr ?_; (case hd => rfl); (case hg => rfl); (case hr => first | (go_simp; done) | (go_simp; rfl))
        intro gb397 hg w14 hbox hb
        have n0_ := Aside0.mk (blk_below (g := gb384) (o := .cells #[.int .i64 a0_0, .int .i64 a0_1, .int .i64 a0_2, .int .i64 a0_3] 36 (0, 0)) (by (with_reducible repeat (first | refine blk_drewN ?_ _ | refine blk_drew ?_ | refine blk_alloc ?_ _)); exact BK384.out) hb)
        have n1_ := Aside0.mk (blk_below (g := gb385) (o := .cells #[.int .i64 a1_0, .int .i64 a1_1, .int .i64 a1_2, .int .i64 a1_3] 36 (0, 0)) (by (with_reducible repeat (first | refine blk_drewN ?_ _ | refine blk_drew ?_ | refine blk_alloc ?_ _)); exact BK385.out) hb)
        have n2_ := Aside0.mk (below_step (by repeat (first | (with_reducible first | exact HB.out | apply below_alloc | apply pw_below_drewN | apply below_drew1 | refine below_set ?_ GE384.out | refine below_set ?_ GE385.out) | exact HB.out)) hb)
        have n3_ := Aside0.mk (hbox)
        have n4_ := Aside0.mk ((by rw [hg]; exact (below_size (by repeat (first | (with_reducible first | exact HB.out | apply below_alloc | apply pw_below_drewN | apply below_drew1 | refine below_set ?_ GE384.out | refine below_set ?_ GE385.out) | exact HB.out))) : w.heap.size ≤ gb397))
        have n5_ := Aside0.mk ((by rw [hg]; exact (below_size (by repeat (first | (with_reducible first | exact HB.out | apply below_alloc | apply pw_below_drewN | apply below_drew1 | refine below_set ?_ GE384.out | refine below_set ?_ GE385.out) | exact HB.out))) : w.heap.size ≤ gb397))
        have n6_ := Aside0.mk ((by rw [hg]; exact Nat.ne_of_lt (blk_lt (g := gb384) (o := .cells #[.int .i64 a0_0, .int .i64 a0_1, .int .i64 a0_2, .int .i64 a0_3] 36 (0, 0)) (by (with_reducible repeat (first | refine blk_drewN ?_ _ | refine blk_drew ?_ | refine blk_alloc ?_ _)); exact BK384.out)) : gb384 ≠ gb397))
        have n7_ := Aside0.mk ((by rw [hg]; exact Nat.ne_of_gt (blk_lt (g := gb384) (o := .cells #[.int .i64 a0_0, .int .i64 a0_1, .int .i64 a0_2, .int .i64 a0_3] 36 (0, 0)) (by (with_reducible repeat (first | refine blk_drewN ?_ _ | refine blk_drew ?_ | refine blk_alloc ?_ _)); exact BK384.out)) : gb397 ≠ gb384))
        have n8_ := Aside0.mk ((by rw [hg]; exact Nat.ne_of_lt (blk_lt (g := gb385) (o := .cells #[.int .i64 a1_0, .int .i64 a1_1, .int .i64 a1_2, .int .i64 a1_3] 36 (0, 0)) (by (with_reducible repeat (first | refine blk_drewN ?_ _ | refine blk_drew ?_ | refine blk_alloc ?_ _)); exact BK385.out)) : gb385 ≠ gb397))
        have n9_ := Aside0.mk ((by rw [hg]; exact Nat.ne_of_gt (blk_lt (g := gb385) (o := .cells #[.int .i64 a1_0, .int .i64 a1_1, .int .i64 a1_2, .int .i64 a1_3] 36 (0, 0)) (by (with_reducible repeat (first | refine blk_drewN ?_ _ | refine blk_drew ?_ | refine blk_alloc ?_ _)); exact BK385.out)) : gb397 ≠ gb385))
        clear BK384
        clear BK385
        clear HB
        have BK384 := n0_
        have BK385 := n1_
        have HB := n2_
        have BK397 := n3_
        have GW397 := n4_
        have GE397 := n5_
        have NB384_397 := n6_
        have NB397_384 := n7_
        have NB385_397 := n8_
        have NB397_385 := n9_
        clear n0_ n1_ n2_ n3_ n4_ n5_ n6_ n7_ n8_ n9_
        clear hb hbox hg
        refine hK.out _ _ ⟨gb397, (.pointer (some ⟨gb397, 0, none⟩)), (by rw [ha.out]; exact putSel_upk 5 hb_ rfl rfl rfl), (by (with_reducible repeat (first | refine blk_drewN ?_ _ | refine blk_drew ?_ | refine blk_alloc ?_ _)); exact BK384.out), (by (with_reducible repeat (first | refine blk_drewN ?_ _ | refine blk_drew ?_ | refine blk_alloc ?_ _)); exact BK385.out), (by repeat (first | (with_reducible first | exact HB.out | apply below_alloc | apply pw_below_drewN | apply below_drew1 | refine below_set ?_ GE384.out | refine below_set ?_ GE385.out | refine below_set ?_ GE397.out) | exact HB.out)), fun _ _ => (by (with_reducible repeat (first | refine blk_drewN ?_ _ | refine blk_drew ?_ | refine blk_alloc ?_ _)); exact BK397.out), fun _ => GW397.out, fun _ => GE397.out, fun _ => NB384_397.out, fun _ => NB397_384.out, fun _ => NB385_397.out, fun _ => NB397_385.out, fun h0_ => absurd ((hoff 6 (by kernel_rfl)).symm.trans h0_) (by decide), fun _ => rfl⟩
      refine steps_cons ?_ ?_
      · rintro b a w' ⟨gb397, m5_, ha, Q_BK384, Q_BK385, Q_HB, Q_BK397, Q_GW397, Q_GE397, Q_NB384_397, Q_NB397_384, Q_NB385_397, Q_NB397_385, Q_BK397_e6, Q_X5_⟩ hb_ hon hoff
        refine ⟨_, rfl, fun K hK => ?_⟩
        have e5 : a.tmps[5]? = some (m5_) := by rw [ha]; exact putSel_on (e := (5, 5, m5_)) 5 rfl rfl (hon 5 (by kernel_rfl)) rfl
        rw [Q_X5_ (hon 5 (by kernel_rfl))] at e5
        have e11 : a.tmps[11]? = some (.agg #[.int .i64 t394, .int .i64 t395, .int .i64 t396]) := by rw [ha]; exact putSel_on (e := (4, 11, .agg #[.int .i64 t394, .int .i64 t395, .int .i64 t396])) 4 rfl rfl (hon 4 (by kernel_rfl)) rfl
        replace ha := Aside0.mk ha
        have BK384 := Aside0.mk Q_BK384
        have BK385 := Aside0.mk Q_BK385
        have HB := Aside0.mk Q_HB
        have BK397 := Aside0.mk (Q_BK397 (hon 5 (by kernel_rfl)) hb_)
        have GW397 := Aside0.mk (Q_GW397 (hon 5 (by kernel_rfl)))
        have GE397 := Aside0.mk (Q_GE397 (hon 5 (by kernel_rfl)))
        have NB384_397 := Aside0.mk (Q_NB384_397 (hon 5 (by kernel_rfl)))
        have NB397_384 := Aside0.mk (Q_NB397_384 (hon 5 (by kernel_rfl)))
        have NB385_397 := Aside0.mk (Q_NB385_397 (hon 5 (by kernel_rfl)))
        have NB397_385 := Aside0.mk (Q_NB397_385 (hon 5 (by kernel_rfl)))
        have hs19 : w'.cell? ⟨gb397, 0, none⟩ = some (.int .i64 0) := (blk_cell BK397.out 0).trans rfl
        have hfs19 := blk_frozen BK397.out 0
        have hns19_0 := NB384_397.out
        have hns19_1 := NB385_397.out
        have hms19_0 := NB397_384.out
        have hms19_1 := NB397_385.out
        have hs20 : w'.cell? ⟨gb397, 1, none⟩ = some (.int .i64 0) := (blk_cell BK397.out 1).trans rfl
        have hfs20 := blk_frozen BK397.out 1
        have hns20_0 := NB384_397.out
        have hns20_1 := NB385_397.out
        have hms20_0 := NB397_384.out
        have hms20_1 := NB397_385.out
        have hs21 : w'.cell? ⟨gb397, 2, none⟩ = some (.int .i64 0) := (blk_cell BK397.out 2).trans rfl
        have hfs21 := blk_frozen BK397.out 2
        have hns21_0 := NB384_397.out
        have hns21_1 := NB385_397.out
        have hms21_0 := NB397_384.out
        have hms21_1 := NB397_385.out
        refine skip_ (w1 := ?_) (by rfl) rfl ?_ ?_
        rotate_left
        · go_simp
          rfl
        refine hK.out _ _ ⟨gb397, m5_, (by rw [ha.out]; exact putSel_none (v := undef) rfl), (by (with_reducible repeat (first | refine blk_drewN ?_ _ | refine blk_drew ?_ | refine blk_alloc ?_ _)); refine blk_far ?_ NB384_397.out _; (with_reducible repeat (first | refine blk_drewN ?_ _ | refine blk_drew ?_ | refine blk_alloc ?_ _)); refine blk_far ?_ NB384_397.out _; (with_reducible repeat (first | refine blk_drewN ?_ _ | refine blk_drew ?_ | refine blk_alloc ?_ _)); refine blk_far ?_ NB384_397.out _; (with_reducible repeat (first | refine blk_drewN ?_ _ | refine blk_drew ?_ | refine blk_alloc ?_ _)); exact BK384.out), (by (with_reducible repeat (first | refine blk_drewN ?_ _ | refine blk_drew ?_ | refine blk_alloc ?_ _)); refine blk_far ?_ NB385_397.out _; (with_reducible repeat (first | refine blk_drewN ?_ _ | refine blk_drew ?_ | refine blk_alloc ?_ _)); refine blk_far ?_ NB385_397.out _; (with_reducible repeat (first | refine blk_drewN ?_ _ | refine blk_drew ?_ | refine blk_alloc ?_ _)); refine blk_far ?_ NB385_397.out _; (with_reducible repeat (first | refine blk_drewN ?_ _ | refine blk_drew ?_ | refine blk_alloc ?_ _)); exact BK385.out), (by repeat (first | (with_reducible first | exact HB.out | apply below_alloc | apply pw_below_drewN | apply below_drew1 | refine below_set ?_ GE384.out | refine below_set ?_ GE385.out | refine below_set ?_ GE397.out) | exact HB.out)), fun _ h1_ => absurd ((up_self b 6).symm.trans h1_) (by decide), fun _ => GW397.out, fun _ => GE397.out, fun _ => NB384_397.out, fun _ => NB397_384.out, fun _ => NB385_397.out, fun _ => NB397_385.out, fun _ => (by (with_reducible repeat (first | refine blk_drewN ?_ _ | refine blk_drew ?_ | refine blk_alloc ?_ _)); refine blk_put (cs := #[.int .i64 t394, .int .i64 t395, .int .i64 0]) ?_ 2 _ rfl; (with_reducible repeat (first | refine blk_drewN ?_ _ | refine blk_drew ?_ | refine blk_alloc ?_ _)); refine blk_put (cs := #[.int .i64 t394, .int .i64 0, .int .i64 0]) ?_ 1 _ rfl; (with_reducible repeat (first | refine blk_drewN ?_ _ | refine blk_drew ?_ | refine blk_alloc ?_ _)); refine blk_put (cs := #[.int .i64 0, .int .i64 0, .int .i64 0]) ?_ 0 _ rfl; (with_reducible repeat (first | refine blk_drewN ?_ _ | refine blk_drew ?_ | refine blk_alloc ?_ _)); exact BK397.out), Q_X5_⟩
      exact steps_nil
    rintro b a w21 hall ⟨gb397, m5_, ha, Q_BK384, Q_BK385, Q_HB, Q_BK397, Q_GW397, Q_GE397, Q_NB384_397, Q_NB397_384, Q_NB385_397, Q_NB397_385, Q_BK397_e6, Q_X5_⟩
    clear BK384 BK385 HB
    have hb0_ := hall 0 (by kernel_rfl)
    have hb1_ := hall 1 (by kernel_rfl)
    have hb2_ := hall 2 (by kernel_rfl)
    have hb3_ := hall 3 (by kernel_rfl)
    have hb4_ := hall 4 (by kernel_rfl)
    have hb5_ := hall 5 (by kernel_rfl)
    have hb6_ := hall 6 (by kernel_rfl)
    subst ha
    obtain rfl := Q_X5_ hb5_
    simp only [putSel, hb0_, hb1_, hb2_, hb3_, hb4_, hb5_, hb6_, if_true, Act.put, List.setIfInBounds_toArray, List.set_cons_zero, List.set_cons_succ]
    have BK384 := Aside0.mk Q_BK384
    clear Q_BK384
    have BK385 := Aside0.mk Q_BK385
    clear Q_BK385
    have HB := Aside0.mk Q_HB
    clear Q_HB
    clear Q_BK397
    have GW397 := Aside0.mk (Q_GW397 hb5_)
    clear Q_GW397
    have GE397 := Aside0.mk (Q_GE397 hb5_)
    clear Q_GE397
    have NB384_397 := Aside0.mk (Q_NB384_397 hb5_)
    clear Q_NB384_397
    have NB397_384 := Aside0.mk (Q_NB397_384 hb5_)
    clear Q_NB397_384
    have NB385_397 := Aside0.mk (Q_NB385_397 hb5_)
    clear Q_NB385_397
    have NB397_385 := Aside0.mk (Q_NB397_385 hb5_)
    clear Q_NB397_385
    have BK397 := Aside0.mk (Q_BK397_e6 hb6_)
    clear Q_BK397_e6
    clear hall hb0_ hb1_ hb2_ hb3_ hb4_ hb5_ hb6_
    try go_wp2
    have n0_ := Aside0.mk (blk_drew BK384.out)
    have n1_ := Aside0.mk (blk_drew BK385.out)
    have n2_ := Aside0.mk (blk_drew BK397.out)
    have n3_ := Aside0.mk (below_drew1 HB.out)
    clear BK384
    clear BK385
    clear BK397
    clear HB
    have BK384 := n0_
    have BK385 := n1_
    have BK397 := n2_
    have HB := n3_
    clear n0_ n1_ n2_ n3_
    refine start_ (n := 7) (S := fun w' => True) (ds := []) #[false, false, false, false, false, false, false] (by kernel_rfl) rfl rfl trivial (fun hHeld => ?_); refine with_tabW laws_FnExactCross.tab2 laws_FnExactCross.bits2 (fun HT_ HW_ => ?_)
    generalize w21.drew = w22 at BK384 BK385 BK397 HB hHeld ⊢
    refine inv_at [0, 1, 2, 3, 4, 5, 6] (fun a0_ b a w' => ∃ (gb409 : Nat) (m5_ : Value), a = putSel a0_ b [(0, 12, .agg #[.int .i64 a0_0, .int .i64 a0_1, .int .i64 a0_2, .int .i64 a0_3]), (1, 13, .agg #[.int .i64 t398, .int .i64 t399, .int .i64 t400, .int .i64 t401]), (2, 14, .agg #[.int .i64 a1_0, .int .i64 a1_1, .int .i64 a1_2, .int .i64 a1_3]), (3, 15, .agg #[.int .i64 t402, .int .i64 t403, .int .i64 t404, .int .i64 t405]), (4, 16, .agg #[.int .i64 t406, .int .i64 t407, .int .i64 t408]), (5, 6, m5_)] ∧ (w'.heap[gb384]? = some (.cells #[.int .i64 a0_0, .int .i64 a0_1, .int .i64 a0_2, .int .i64 a0_3] 36 (0, 0))) ∧ (w'.heap[gb385]? = some (.cells #[.int .i64 a1_0, .int .i64 a1_1, .int .i64 a1_2, .int .i64 a1_3] 36 (0, 0))) ∧ (w'.heap[gb397]? = some (.cells #[.int .i64 t394, .int .i64 t395, .int .i64 t396] 54 (0, 0))) ∧ (Below w.heap.size w w') ∧ (b 5 = true → b 6 = false → w'.heap[gb409]? = some (.cells #[.int .i64 0, .int .i64 0, .int .i64 0] 54 (0, 0))) ∧ (b 5 = true → w.heap.size ≤ gb409) ∧ (b 5 = true → w.heap.size ≤ gb409) ∧ (b 5 = true → gb384 ≠ gb409) ∧ (b 5 = true → gb409 ≠ gb384) ∧ (b 5 = true → gb385 ≠ gb409) ∧ (b 5 = true → gb409 ≠ gb385) ∧ (b 5 = true → gb397 ≠ gb409) ∧ (b 5 = true → gb409 ≠ gb397) ∧ (b 6 = true → w'.heap[gb409]? = some (.cells #[.int .i64 t406, .int .i64 t407, .int .i64 t408] 54 (0, 0))) ∧ (b 5 = true → (m5_ : Value) = .pointer (some ⟨gb409, 0, none⟩))) HT_.out HW_.out (by kernel_rfl) (by kernel_rfl) ?_ ?_ ?_
    · exact ⟨0, .bool false, by simp only [putSel, Bool.false_eq_true, if_false], BK384.out, BK385.out, BK397.out, HB.out, fun h_ => absurd h_ (by decide), fun h_ => absurd h_ (by decide), fun h_ => absurd h_ (by decide), fun h_ => absurd h_ (by decide), fun h_ => absurd h_ (by decide), fun h_ => absurd h_ (by decide), fun h_ => absurd h_ (by decide), fun h_ => absurd h_ (by decide), fun h_ => absurd h_ (by decide), fun h_ => absurd h_ (by decide), fun h_ => absurd h_ (by decide)⟩
    · skip
      clear BK384 BK385 BK397 HB
      refine steps_cons ?_ ?_
      · rintro b a w' ⟨gb409, m5_, ha, Q_BK384, Q_BK385, Q_BK397, Q_HB, Q_BK409, Q_GW409, Q_GE409, Q_NB384_409, Q_NB409_384, Q_NB385_409, Q_NB409_385, Q_NB397_409, Q_NB409_397, Q_BK409_e6, Q_X5_⟩ hb_ hon hoff
        refine ⟨_, rfl, fun K hK => ?_⟩
        have e2 : a.tmps[2]? = some (.pointer (some ⟨gb384, 0, none⟩)) := by rw [ha]; exact (putSel_off rfl).trans rfl
        replace ha := Aside0.mk ha
        have BK384 := Aside0.mk Q_BK384
        have BK385 := Aside0.mk Q_BK385
        have BK397 := Aside0.mk Q_BK397
        have HB := Aside0.mk Q_HB
        have hc0_ : w'.cell? ⟨gb384, 0, none⟩ = some (.int .i64 a0_0) := (blk_cell BK384.out 0).trans rfl
        have hc1_ : w'.cell? ⟨gb384, 1, none⟩ = some (.int .i64 a0_1) := (blk_cell BK384.out 1).trans rfl
        have hc2_ : w'.cell? ⟨gb384, 2, none⟩ = some (.int .i64 a0_2) := (blk_cell BK384.out 2).trans rfl
        have hc3_ : w'.cell? ⟨gb384, 3, none⟩ = some (.int .i64 a0_3) := (blk_cell BK384.out 3).trans rfl
        refine value_ (w1 := w') (v := .agg #[.int .i64 a0_0, .int .i64 a0_1, .int .i64 a0_2, .int .i64 a0_3]) (by rfl) rfl ?_ ?_
        · go_simp
          (try simp only [i64_w])
          try rfl
        refine hK.out _ _ ⟨gb409, m5_, (by rw [ha.out]; exact putSel_upk 0 hb_ rfl rfl rfl), Q_BK384, Q_BK385, Q_BK397, Q_HB, Q_BK409, Q_GW409, Q_GE409, Q_NB384_409, Q_NB409_384, Q_NB385_409, Q_NB409_385, Q_NB397_409, Q_NB409_397, fun h0_ => absurd ((hoff 6 (by kernel_rfl)).symm.trans h0_) (by decide), Q_X5_⟩
      refine steps_cons ?_ ?_
      · rintro b a w' ⟨gb409, m5_, ha, Q_BK384, Q_BK385, Q_BK397, Q_HB, Q_BK409, Q_GW409, Q_GE409, Q_NB384_409, Q_NB409_384, Q_NB385_409, Q_NB409_385, Q_NB397_409, Q_NB409_397, Q_BK409_e6, Q_X5_⟩ hb_ hon hoff
        refine ⟨_, rfl, fun K hK => ?_⟩
        have e12 : a.tmps[12]? = some (.agg #[.int .i64 a0_0, .int .i64 a0_1, .int .i64 a0_2, .int .i64 a0_3]) := by rw [ha]; exact putSel_on (e := (0, 12, .agg #[.int .i64 a0_0, .int .i64 a0_1, .int .i64 a0_2, .int .i64 a0_3])) 0 rfl rfl (hon 0 (by kernel_rfl)) rfl
        replace ha := Aside0.mk ha
        have BK384 := Aside0.mk Q_BK384
        have BK385 := Aside0.mk Q_BK385
        have BK397 := Aside0.mk Q_BK397
        have HB := Aside0.mk Q_HB
        refine goes_ Try.func36 (by kernel_rfl) rfl #[.agg #[.int .i64 a0_0, .int .i64 a0_1, .int .i64 a0_2, .int .i64 a0_3]] (by rfl) rfl rfl (by first | (simp only [List.map_toArray, List.map_cons, List.map_nil, Act.eval, Array.getD_eq_getD_getElem?, Option.getD_some, e12]; done) | (simp only [List.map_toArray, List.map_cons, List.map_nil, Act.eval, Array.getD_eq_getD_getElem?, Option.getD_some, e12]; rfl)) ?_
        with_reducible refine (laws_toPlane.calls a0_0 a0_1 a0_2 a0_3 t398 t399 t400 t401 _ A6.out).mono ?_
        rintro e w23 ⟨rfl, hb⟩
        refine ⟨_, rfl, ?_⟩
        have n0_ := Aside0.mk (blk_below (g := gb384) (o := .cells #[.int .i64 a0_0, .int .i64 a0_1, .int .i64 a0_2, .int .i64 a0_3] 36 (0, 0)) (by (with_reducible repeat (first | refine blk_drewN ?_ _ | refine blk_drew ?_ | refine blk_alloc ?_ _)); exact BK384.out) hb)
        have n1_ := Aside0.mk (blk_below (g := gb385) (o := .cells #[.int .i64 a1_0, .int .i64 a1_1, .int .i64 a1_2, .int .i64 a1_3] 36 (0, 0)) (by (with_reducible repeat (first | refine blk_drewN ?_ _ | refine blk_drew ?_ | refine blk_alloc ?_ _)); exact BK385.out) hb)
        have n2_ := Aside0.mk (blk_below (g := gb397) (o := .cells #[.int .i64 t394, .int .i64 t395, .int .i64 t396] 54 (0, 0)) (by (with_reducible repeat (first | refine blk_drewN ?_ _ | refine blk_drew ?_ | refine blk_alloc ?_ _)); exact BK397.out) hb)
        have n3_ := Aside0.mk (below_step (by repeat (first | (with_reducible first | exact HB.out | apply below_alloc | apply pw_below_drewN | apply below_drew1 | refine below_set ?_ GE384.out | refine below_set ?_ GE385.out | refine below_set ?_ GE397.out) | exact HB.out)) hb)
        have z_BK409 := fun (h0_ : b 5 = true) (h1_ : b 6 = false) => (show w23.heap[gb409]? = some (.cells #[.int .i64 0, .int .i64 0, .int .i64 0] 54 (0, 0)) from by first | exact (blk_below (g := gb409) (o := .cells #[.int .i64 0, .int .i64 0, .int .i64 0] 54 (0, 0)) (by (with_reducible repeat (first | refine blk_drewN ?_ _ | refine blk_drew ?_ | refine blk_alloc ?_ _)); exact (Q_BK409 h0_ h1_)) hb))
        clear BK384
        clear BK385
        clear BK397
        clear HB
        have BK384 := n0_
        have BK385 := n1_
        have BK397 := n2_
        have HB := n3_
        clear n0_ n1_ n2_ n3_
        (try clear hb)
        (try clear hb2)
        (try clear hk)
        (try clear hi)
        refine hK.out _ _ ⟨gb409, m5_, (by rw [ha.out]; exact putSel_upk 1 hb_ rfl rfl rfl), (by (with_reducible repeat (first | refine blk_drewN ?_ _ | refine blk_drew ?_ | refine blk_alloc ?_ _)); exact BK384.out), (by (with_reducible repeat (first | refine blk_drewN ?_ _ | refine blk_drew ?_ | refine blk_alloc ?_ _)); exact BK385.out), (by (with_reducible repeat (first | refine blk_drewN ?_ _ | refine blk_drew ?_ | refine blk_alloc ?_ _)); exact BK397.out), (by repeat (first | (with_reducible first | exact HB.out | apply below_alloc | apply pw_below_drewN | apply below_drew1 | refine below_set ?_ GE384.out | refine below_set ?_ GE385.out | refine below_set ?_ GE397.out) | exact HB.out)), z_BK409, Q_GW409, Q_GE409, Q_NB384_409, Q_NB409_384, Q_NB385_409, Q_NB409_385, Q_NB397_409, Q_NB409_397, fun h0_ => absurd ((hoff 6 (by kernel_rfl)).symm.trans h0_) (by decide), Q_X5_⟩
      refine steps_cons ?_ ?_
      · rintro b a w' ⟨gb409, m5_, ha, Q_BK384, Q_BK385, Q_BK397, Q_HB, Q_BK409, Q_GW409, Q_GE409, Q_NB384_409, Q_NB409_384, Q_NB385_409, Q_NB409_385, Q_NB397_409, Q_NB409_397, Q_BK409_e6, Q_X5_⟩ hb_ hon hoff
        refine ⟨_, rfl, fun K hK => ?_⟩
        have e3 : a.tmps[3]? = some (.pointer (some ⟨gb385, 0, none⟩)) := by rw [ha]; exact (putSel_off rfl).trans rfl
        replace ha := Aside0.mk ha
        have BK384 := Aside0.mk Q_BK384
        have BK385 := Aside0.mk Q_BK385
        have BK397 := Aside0.mk Q_BK397
        have HB := Aside0.mk Q_HB
        have hc0_ : w'.cell? ⟨gb385, 0, none⟩ = some (.int .i64 a1_0) := (blk_cell BK385.out 0).trans rfl
        have hc1_ : w'.cell? ⟨gb385, 1, none⟩ = some (.int .i64 a1_1) := (blk_cell BK385.out 1).trans rfl
        have hc2_ : w'.cell? ⟨gb385, 2, none⟩ = some (.int .i64 a1_2) := (blk_cell BK385.out 2).trans rfl
        have hc3_ : w'.cell? ⟨gb385, 3, none⟩ = some (.int .i64 a1_3) := (blk_cell BK385.out 3).trans rfl
        refine value_ (w1 := w') (v := .agg #[.int .i64 a1_0, .int .i64 a1_1, .int .i64 a1_2, .int .i64 a1_3]) (by rfl) rfl ?_ ?_
        · go_simp
          (try simp only [i64_w])
          try rfl
        refine hK.out _ _ ⟨gb409, m5_, (by rw [ha.out]; exact putSel_upk 2 hb_ rfl rfl rfl), Q_BK384, Q_BK385, Q_BK397, Q_HB, Q_BK409, Q_GW409, Q_GE409, Q_NB384_409, Q_NB409_384, Q_NB385_409, Q_NB409_385, Q_NB397_409, Q_NB409_397, fun h0_ => absurd ((hoff 6 (by kernel_rfl)).symm.trans h0_) (by decide), Q_X5_⟩
      refine steps_cons ?_ ?_
      · rintro b a w' ⟨gb409, m5_, ha, Q_BK384, Q_BK385, Q_BK397, Q_HB, Q_BK409, Q_GW409, Q_GE409, Q_NB384_409, Q_NB409_384, Q_NB385_409, Q_NB409_385, Q_NB397_409, Q_NB409_397, Q_BK409_e6, Q_X5_⟩ hb_ hon hoff
        refine ⟨_, rfl, fun K hK => ?_⟩
        have e14 : a.tmps[14]? = some (.agg #[.int .i64 a1_0, .int .i64 a1_1, .int .i64 a1_2, .int .i64 a1_3]) := by rw [ha]; exact putSel_on (e := (2, 14, .agg #[.int .i64 a1_0, .int .i64 a1_1, .int .i64 a1_2, .int .i64 a1_3])) 2 rfl rfl (hon 2 (by kernel_rfl)) rfl
        replace ha := Aside0.mk ha
        have BK384 := Aside0.mk Q_BK384
        have BK385 := Aside0.mk Q_BK385
        have BK397 := Aside0.mk Q_BK397
        have HB := Aside0.mk Q_HB
        refine goes_ Try.func36 (by kernel_rfl) rfl #[.agg #[.int .i64 a1_0, .int .i64 a1_1, .int .i64 a1_2, .int .i64 a1_3]] (by rfl) rfl rfl (by first | (simp only [List.map_toArray, List.map_cons, List.map_nil, Act.eval, Array.getD_eq_getD_getElem?, Option.getD_some, e14]; done) | (simp only [List.map_toArray, List.map_cons, List.map_nil, Act.eval, Array.getD_eq_getD_getElem?, Option.getD_some, e14]; rfl)) ?_
        with_reducible refine (laws_toPlane.calls a1_0 a1_1 a1_2 a1_3 t402 t403 t404 t405 _ A7.out).mono ?_
        rintro e w25 ⟨rfl, hb⟩
        refine ⟨_, rfl, ?_⟩
        have n0_ := Aside0.mk (blk_below (g := gb384) (o := .cells #[.int .i64 a0_0, .int .i64 a0_1, .int .i64 a0_2, .int .i64 a0_3] 36 (0, 0)) (by (with_reducible repeat (first | refine blk_drewN ?_ _ | refine blk_drew ?_ | refine blk_alloc ?_ _)); exact BK384.out) hb)
        have n1_ := Aside0.mk (blk_below (g := gb385) (o := .cells #[.int .i64 a1_0, .int .i64 a1_1, .int .i64 a1_2, .int .i64 a1_3] 36 (0, 0)) (by (with_reducible repeat (first | refine blk_drewN ?_ _ | refine blk_drew ?_ | refine blk_alloc ?_ _)); exact BK385.out) hb)
        have n2_ := Aside0.mk (blk_below (g := gb397) (o := .cells #[.int .i64 t394, .int .i64 t395, .int .i64 t396] 54 (0, 0)) (by (with_reducible repeat (first | refine blk_drewN ?_ _ | refine blk_drew ?_ | refine blk_alloc ?_ _)); exact BK397.out) hb)
        have n3_ := Aside0.mk (below_step (by repeat (first | (with_reducible first | exact HB.out | apply below_alloc | apply pw_below_drewN | apply below_drew1 | refine below_set ?_ GE384.out | refine below_set ?_ GE385.out | refine below_set ?_ GE397.out) | exact HB.out)) hb)
        have z_BK409 := fun (h0_ : b 5 = true) (h1_ : b 6 = false) => (show w25.heap[gb409]? = some (.cells #[.int .i64 0, .int .i64 0, .int .i64 0] 54 (0, 0)) from by first | exact (blk_below (g := gb409) (o := .cells #[.int .i64 0, .int .i64 0, .int .i64 0] 54 (0, 0)) (by (with_reducible repeat (first | refine blk_drewN ?_ _ | refine blk_drew ?_ | refine blk_alloc ?_ _)); exact (Q_BK409 h0_ h1_)) hb))
        clear BK384
        clear BK385
        clear BK397
        clear HB
        have BK384 := n0_
        have BK385 := n1_
        have BK397 := n2_
        have HB := n3_
        clear n0_ n1_ n2_ n3_
        (try clear hb)
        (try clear hb2)
        (try clear hk)
        (try clear hi)
        refine hK.out _ _ ⟨gb409, m5_, (by rw [ha.out]; exact putSel_upk 3 hb_ rfl rfl rfl), (by (with_reducible repeat (first | refine blk_drewN ?_ _ | refine blk_drew ?_ | refine blk_alloc ?_ _)); exact BK384.out), (by (with_reducible repeat (first | refine blk_drewN ?_ _ | refine blk_drew ?_ | refine blk_alloc ?_ _)); exact BK385.out), (by (with_reducible repeat (first | refine blk_drewN ?_ _ | refine blk_drew ?_ | refine blk_alloc ?_ _)); exact BK397.out), (by repeat (first | (with_reducible first | exact HB.out | apply below_alloc | apply pw_below_drewN | apply below_drew1 | refine below_set ?_ GE384.out | refine below_set ?_ GE385.out | refine below_set ?_ GE397.out) | exact HB.out)), z_BK409, Q_GW409, Q_GE409, Q_NB384_409, Q_NB409_384, Q_NB385_409, Q_NB409_385, Q_NB397_409, Q_NB409_397, fun h0_ => absurd ((hoff 6 (by kernel_rfl)).symm.trans h0_) (by decide), Q_X5_⟩
      refine steps_cons ?_ ?_
      · rintro b a w' ⟨gb409, m5_, ha, Q_BK384, Q_BK385, Q_BK397, Q_HB, Q_BK409, Q_GW409, Q_GE409, Q_NB384_409, Q_NB409_384, Q_NB385_409, Q_NB409_385, Q_NB397_409, Q_NB409_397, Q_BK409_e6, Q_X5_⟩ hb_ hon hoff
        refine ⟨_, rfl, fun K hK => ?_⟩
        have e13 : a.tmps[13]? = some (.agg #[.int .i64 t398, .int .i64 t399, .int .i64 t400, .int .i64 t401]) := by rw [ha]; exact putSel_on (e := (1, 13, .agg #[.int .i64 t398, .int .i64 t399, .int .i64 t400, .int .i64 t401])) 1 rfl rfl (hon 1 (by kernel_rfl)) rfl
        have e15 : a.tmps[15]? = some (.agg #[.int .i64 t402, .int .i64 t403, .int .i64 t404, .int .i64 t405]) := by rw [ha]; exact putSel_on (e := (3, 15, .agg #[.int .i64 t402, .int .i64 t403, .int .i64 t404, .int .i64 t405])) 3 rfl rfl (hon 3 (by kernel_rfl)) rfl
        replace ha := Aside0.mk ha
        have BK384 := Aside0.mk Q_BK384
        have BK385 := Aside0.mk Q_BK385
        have BK397 := Aside0.mk Q_BK397
        have HB := Aside0.mk Q_HB
        refine goes_ Try.func49 (by kernel_rfl) rfl #[.agg #[.int .i64 t398, .int .i64 t399, .int .i64 t400, .int .i64 t401], .agg #[.int .i64 t402, .int .i64 t403, .int .i64 t404, .int .i64 t405]] (by rfl) rfl rfl (by first | (simp only [List.map_toArray, List.map_cons, List.map_nil, Act.eval, Array.getD_eq_getD_getElem?, Option.getD_some, e13, e15]; done) | (simp only [List.map_toArray, List.map_cons, List.map_nil, Act.eval, Array.getD_eq_getD_getElem?, Option.getD_some, e13, e15]; rfl)) ?_
        with_reducible refine (impl_Cross.calls k t398 t399 t400 t401 t402 t403 t404 t405 t406 t407 t408 _ A8.out).mono ?_
        rintro e w26 ⟨rfl, hb⟩
        refine ⟨_, rfl, ?_⟩
        have n0_ := Aside0.mk (blk_below (g := gb384) (o := .cells #[.int .i64 a0_0, .int .i64 a0_1, .int .i64 a0_2, .int .i64 a0_3] 36 (0, 0)) (by (with_reducible repeat (first | refine blk_drewN ?_ _ | refine blk_drew ?_ | refine blk_alloc ?_ _)); exact BK384.out) hb)
        have n1_ := Aside0.mk (blk_below (g := gb385) (o := .cells #[.int .i64 a1_0, .int .i64 a1_1, .int .i64 a1_2, .int .i64 a1_3] 36 (0, 0)) (by (with_reducible repeat (first | refine blk_drewN ?_ _ | refine blk_drew ?_ | refine blk_alloc ?_ _)); exact BK385.out) hb)
        have n2_ := Aside0.mk (blk_below (g := gb397) (o := .cells #[.int .i64 t394, .int .i64 t395, .int .i64 t396] 54 (0, 0)) (by (with_reducible repeat (first | refine blk_drewN ?_ _ | refine blk_drew ?_ | refine blk_alloc ?_ _)); exact BK397.out) hb)
        have n3_ := Aside0.mk (below_step (by repeat (first | (with_reducible first | exact HB.out | apply below_alloc | apply pw_below_drewN | apply below_drew1 | refine below_set ?_ GE384.out | refine below_set ?_ GE385.out | refine below_set ?_ GE397.out) | exact HB.out)) hb)
        have z_BK409 := fun (h0_ : b 5 = true) (h1_ : b 6 = false) => (show w26.heap[gb409]? = some (.cells #[.int .i64 0, .int .i64 0, .int .i64 0] 54 (0, 0)) from by first | exact (blk_below (g := gb409) (o := .cells #[.int .i64 0, .int .i64 0, .int .i64 0] 54 (0, 0)) (by (with_reducible repeat (first | refine blk_drewN ?_ _ | refine blk_drew ?_ | refine blk_alloc ?_ _)); exact (Q_BK409 h0_ h1_)) hb))
        clear BK384
        clear BK385
        clear BK397
        clear HB
        have BK384 := n0_
        have BK385 := n1_
        have BK397 := n2_
        have HB := n3_
        clear n0_ n1_ n2_ n3_
        (try clear hb)
        (try clear hb2)
        (try clear hk)
        (try clear hi)
        refine hK.out _ _ ⟨gb409, m5_, (by rw [ha.out]; exact putSel_upk 4 hb_ rfl rfl rfl), (by (with_reducible repeat (first | refine blk_drewN ?_ _ | refine blk_drew ?_ | refine blk_alloc ?_ _)); exact BK384.out), (by (with_reducible repeat (first | refine blk_drewN ?_ _ | refine blk_drew ?_ | refine blk_alloc ?_ _)); exact BK385.out), (by (with_reducible repeat (first | refine blk_drewN ?_ _ | refine blk_drew ?_ | refine blk_alloc ?_ _)); exact BK397.out), (by repeat (first | (with_reducible first | exact HB.out | apply below_alloc | apply pw_below_drewN | apply below_drew1 | refine below_set ?_ GE384.out | refine below_set ?_ GE385.out | refine below_set ?_ GE397.out) | exact HB.out)), z_BK409, Q_GW409, Q_GE409, Q_NB384_409, Q_NB409_384, Q_NB385_409, Q_NB409_385, Q_NB397_409, Q_NB409_397, fun h0_ => absurd ((hoff 6 (by kernel_rfl)).symm.trans h0_) (by decide), Q_X5_⟩
      refine steps_cons ?_ ?_
      · rintro b a w' ⟨gb409, m5_, ha, Q_BK384, Q_BK385, Q_BK397, Q_HB, Q_BK409, Q_GW409, Q_GE409, Q_NB384_409, Q_NB409_384, Q_NB385_409, Q_NB409_385, Q_NB397_409, Q_NB409_397, Q_BK409_e6, Q_X5_⟩ hb_ hon hoff
        refine ⟨_, rfl, fun K hK => ?_⟩
        replace ha := Aside0.mk ha
        have BK384 := Aside0.mk Q_BK384
        have BK385 := Aside0.mk Q_BK385
        have BK397 := Aside0.mk Q_BK397
        have HB := Aside0.mk Q_HB
        refine box_step ?hg (N := 6) ?hd (cs := #[.int .i64 0, .int .i64 0, .int .i64 0]) (t := 54) ?hr ?_; (case hd => rfl); (case hg => rfl); (case hr => first | (go_simp; done) | (go_simp; rfl))
        intro gb409 hg w23 hbox hb
        have n0_ := Aside0.mk (blk_below (g := gb384) (o := .cells #[.int .i64 a0_0, .int .i64 a0_1, .int .i64 a0_2, .int .i64 a0_3] 36 (0, 0)) (by (with_reducible repeat (first | refine blk_drewN ?_ _ | refine blk_drew ?_ | refine blk_alloc ?_ _)); exact BK384.out) hb)
        have n1_ := Aside0.mk (blk_below (g := gb385) (o := .cells #[.int .i64 a1_0, .int .i64 a1_1, .int .i64 a1_2, .int .i64 a1_3] 36 (0, 0)) (by (with_reducible repeat (first | refine blk_drewN ?_ _ | refine blk_drew ?_ | refine blk_alloc ?_ _)); exact BK385.out) hb)
        have n2_ := Aside0.mk (blk_below (g := gb397) (o := .cells #[.int .i64 t394, .int .i64 t395, .int .i64 t396] 54 (0, 0)) (by (with_reducible repeat (first | refine blk_drewN ?_ _ | refine blk_drew ?_ | refine blk_alloc ?_ _)); exact BK397.out) hb)
        have n3_ := Aside0.mk (below_step (by repeat (first | (with_reducible first | exact HB.out | apply below_alloc | apply pw_below_drewN | apply below_drew1 | refine below_set ?_ GE384.out | refine below_set ?_ GE385.out | refine below_set ?_ GE397.out) | exact HB.out)) hb)
        have n4_ := Aside0.mk (hbox)
        have n5_ := Aside0.mk ((by rw [hg]; exact (below_size (by repeat (first | (with_reducible first | exact HB.out | apply below_alloc | apply pw_below_drewN | apply below_drew1 | refine below_set ?_ GE384.out | refine below_set ?_ GE385.out | refine below_set ?_ GE397.out) | exact HB.out))) : w.heap.size ≤ gb409))
        have n6_ := Aside0.mk ((by rw [hg]; exact (below_size (by repeat (first | (with_reducible first | exact HB.out | apply below_alloc | apply pw_below_drewN | apply below_drew1 | refine below_set ?_ GE384.out | refine below_set ?_ GE385.out | refine below_set ?_ GE397.out) | exact HB.out))) : w.heap.size ≤ gb409))
        have n7_ := Aside0.mk ((by rw [hg]; exact Nat.ne_of_lt (blk_lt (g := gb384) (o := .cells #[.int .i64 a0_0, .int .i64 a0_1, .int .i64 a0_2, .int .i64 a0_3] 36 (0, 0)) (by (with_reducible repeat (first | refine blk_drewN ?_ _ | refine blk_drew ?_ | refine blk_alloc ?_ _)); exact BK384.out)) : gb384 ≠ gb409))
        have n8_ := Aside0.mk ((by rw [hg]; exact Nat.ne_of_gt (blk_lt (g := gb384) (o := .cells #[.int .i64 a0_0, .int .i64 a0_1, .int .i64 a0_2, .int .i64 a0_3] 36 (0, 0)) (by (with_reducible repeat (first | refine blk_drewN ?_ _ | refine blk_drew ?_ | refine blk_alloc ?_ _)); exact BK384.out)) : gb409 ≠ gb384))
        have n9_ := Aside0.mk ((by rw [hg]; exact Nat.ne_of_lt (blk_lt (g := gb385) (o := .cells #[.int .i64 a1_0, .int .i64 a1_1, .int .i64 a1_2, .int .i64 a1_3] 36 (0, 0)) (by (with_reducible repeat (first | refine blk_drewN ?_ _ | refine blk_drew ?_ | refine blk_alloc ?_ _)); exact BK385.out)) : gb385 ≠ gb409))
        have n10_ := Aside0.mk ((by rw [hg]; exact Nat.ne_of_gt (blk_lt (g := gb385) (o := .cells #[.int .i64 a1_0, .int .i64 a1_1, .int .i64 a1_2, .int .i64 a1_3] 36 (0, 0)) (by (with_reducible repeat (first | refine blk_drewN ?_ _ | refine blk_drew ?_ | refine blk_alloc ?_ _)); exact BK385.out)) : gb409 ≠ gb385))
        have n11_ := Aside0.mk ((by rw [hg]; exact Nat.ne_of_lt (blk_lt (g := gb397) (o := .cells #[.int .i64 t394, .int .i64 t395, .int .i64 t396] 54 (0, 0)) (by (with_reducible repeat (first | refine blk_drewN ?_ _ | refine blk_drew ?_ | refine blk_alloc ?_ _)); exact BK397.out)) : gb397 ≠ gb409))
        have n12_ := Aside0.mk ((by rw [hg]; exact Nat.ne_of_gt (blk_lt (g := gb397) (o := .cells #[.int .i64 t394, .int .i64 t395, .int .i64 t396] 54 (0, 0)) (by (with_reducible repeat (first | refine blk_drewN ?_ _ | refine blk_drew ?_ | refine blk_alloc ?_ _)); exact BK397.out)) : gb409 ≠ gb397))
        clear BK384
        clear BK385
        clear BK397
        clear HB
        have BK384 := n0_
        have BK385 := n1_
        have BK397 := n2_
        have HB := n3_
        have BK409 := n4_
        have GW409 := n5_
        have GE409 := n6_
        have NB384_409 := n7_
        have NB409_384 := n8_
        have NB385_409 := n9_
        have NB409_385 := n10_
        have NB397_409 := n11_
        have NB409_397 := n12_
        clear n0_ n1_ n2_ n3_ n4_ n5_ n6_ n7_ n8_ n9_ n10_ n11_ n12_
        clear hb hbox hg
        refine hK.out _ _ ⟨gb409, (.pointer (some ⟨gb409, 0, none⟩)), (by rw [ha.out]; exact putSel_upk 5 hb_ rfl rfl rfl), (by (with_reducible repeat (first | refine blk_drewN ?_ _ | refine blk_drew ?_ | refine blk_alloc ?_ _)); exact BK384.out), (by (with_reducible repeat (first | refine blk_drewN ?_ _ | refine blk_drew ?_ | refine blk_alloc ?_ _)); exact BK385.out), (by (with_reducible repeat (first | refine blk_drewN ?_ _ | refine blk_drew ?_ | refine blk_alloc ?_ _)); exact BK397.out), (by repeat (first | (with_reducible first | exact HB.out | apply below_alloc | apply pw_below_drewN | apply below_drew1 | refine below_set ?_ GE384.out | refine below_set ?_ GE385.out | refine below_set ?_ GE397.out | refine below_set ?_ GE409.out) | exact HB.out)), fun _ _ => (by (with_reducible repeat (first | refine blk_drewN ?_ _ | refine blk_drew ?_ | refine blk_alloc ?_ _)); exact BK409.out), fun _ => GW409.out, fun _ => GE409.out, fun _ => NB384_409.out, fun _ => NB409_384.out, fun _ => NB385_409.out, fun _ => NB409_385.out, fun _ => NB397_409.out, fun _ => NB409_397.out, fun h0_ => absurd ((hoff 6 (by kernel_rfl)).symm.trans h0_) (by decide), fun _ => rfl⟩
      refine steps_cons ?_ ?_
      · rintro b a w' ⟨gb409, m5_, ha, Q_BK384, Q_BK385, Q_BK397, Q_HB, Q_BK409, Q_GW409, Q_GE409, Q_NB384_409, Q_NB409_384, Q_NB385_409, Q_NB409_385, Q_NB397_409, Q_NB409_397, Q_BK409_e6, Q_X5_⟩ hb_ hon hoff
        refine ⟨_, rfl, fun K hK => ?_⟩
        have e6 : a.tmps[6]? = some (m5_) := by rw [ha]; exact putSel_on (e := (5, 6, m5_)) 5 rfl rfl (hon 5 (by kernel_rfl)) rfl
        rw [Q_X5_ (hon 5 (by kernel_rfl))] at e6
        have e16 : a.tmps[16]? = some (.agg #[.int .i64 t406, .int .i64 t407, .int .i64 t408]) := by rw [ha]; exact putSel_on (e := (4, 16, .agg #[.int .i64 t406, .int .i64 t407, .int .i64 t408])) 4 rfl rfl (hon 4 (by kernel_rfl)) rfl
        replace ha := Aside0.mk ha
        have BK384 := Aside0.mk Q_BK384
        have BK385 := Aside0.mk Q_BK385
        have BK397 := Aside0.mk Q_BK397
        have HB := Aside0.mk Q_HB
        have BK409 := Aside0.mk (Q_BK409 (hon 5 (by kernel_rfl)) hb_)
        have GW409 := Aside0.mk (Q_GW409 (hon 5 (by kernel_rfl)))
        have GE409 := Aside0.mk (Q_GE409 (hon 5 (by kernel_rfl)))
        have NB384_409 := Aside0.mk (Q_NB384_409 (hon 5 (by kernel_rfl)))
        have NB409_384 := Aside0.mk (Q_NB409_384 (hon 5 (by kernel_rfl)))
        have NB385_409 := Aside0.mk (Q_NB385_409 (hon 5 (by kernel_rfl)))
        have NB409_385 := Aside0.mk (Q_NB409_385 (hon 5 (by kernel_rfl)))
        have NB397_409 := Aside0.mk (Q_NB397_409 (hon 5 (by kernel_rfl)))
        have NB409_397 := Aside0.mk (Q_NB409_397 (hon 5 (by kernel_rfl)))
        have hs28 : w'.cell? ⟨gb409, 0, none⟩ = some (.int .i64 0) := (blk_cell BK409.out 0).trans rfl
        have hfs28 := blk_frozen BK409.out 0
        have hns28_0 := NB384_409.out
        have hns28_1 := NB385_409.out
        have hns28_2 := NB397_409.out
        have hms28_0 := NB409_384.out
        have hms28_1 := NB409_385.out
        have hms28_2 := NB409_397.out
        have hs29 : w'.cell? ⟨gb409, 1, none⟩ = some (.int .i64 0) := (blk_cell BK409.out 1).trans rfl
        have hfs29 := blk_frozen BK409.out 1
        have hns29_0 := NB384_409.out
        have hns29_1 := NB385_409.out
        have hns29_2 := NB397_409.out
        have hms29_0 := NB409_384.out
        have hms29_1 := NB409_385.out
        have hms29_2 := NB409_397.out
        have hs30 : w'.cell? ⟨gb409, 2, none⟩ = some (.int .i64 0) := (blk_cell BK409.out 2).trans rfl
        have hfs30 := blk_frozen BK409.out 2
        have hns30_0 := NB384_409.out
        have hns30_1 := NB385_409.out
        have hns30_2 := NB397_409.out
        have hms30_0 := NB409_384.out
        have hms30_1 := NB409_385.out
        have hms30_2 := NB409_397.out
        refine skip_ (w1 := ?_) (by rfl) rfl ?_ ?_
        rotate_left
        · go_simp
          rfl
        refine hK.out _ _ ⟨gb409, m5_, (by rw [ha.out]; exact putSel_none (v := undef) rfl), (by (with_reducible repeat (first | refine blk_drewN ?_ _ | refine blk_drew ?_ | refine blk_alloc ?_ _)); refine blk_far ?_ NB384_409.out _; (with_reducible repeat (first | refine blk_drewN ?_ _ | refine blk_drew ?_ | refine blk_alloc ?_ _)); refine blk_far ?_ NB384_409.out _; (with_reducible repeat (first | refine blk_drewN ?_ _ | refine blk_drew ?_ | refine blk_alloc ?_ _)); refine blk_far ?_ NB384_409.out _; (with_reducible repeat (first | refine blk_drewN ?_ _ | refine blk_drew ?_ | refine blk_alloc ?_ _)); exact BK384.out), (by (with_reducible repeat (first | refine blk_drewN ?_ _ | refine blk_drew ?_ | refine blk_alloc ?_ _)); refine blk_far ?_ NB385_409.out _; (with_reducible repeat (first | refine blk_drewN ?_ _ | refine blk_drew ?_ | refine blk_alloc ?_ _)); refine blk_far ?_ NB385_409.out _; (with_reducible repeat (first | refine blk_drewN ?_ _ | refine blk_drew ?_ | refine blk_alloc ?_ _)); refine blk_far ?_ NB385_409.out _; (with_reducible repeat (first | refine blk_drewN ?_ _ | refine blk_drew ?_ | refine blk_alloc ?_ _)); exact BK385.out), (by (with_reducible repeat (first | refine blk_drewN ?_ _ | refine blk_drew ?_ | refine blk_alloc ?_ _)); refine blk_far ?_ NB397_409.out _; (with_reducible repeat (first | refine blk_drewN ?_ _ | refine blk_drew ?_ | refine blk_alloc ?_ _)); refine blk_far ?_ NB397_409.out _; (with_reducible repeat (first | refine blk_drewN ?_ _ | refine blk_drew ?_ | refine blk_alloc ?_ _)); refine blk_far ?_ NB397_409.out _; (with_reducible repeat (first | refine blk_drewN ?_ _ | refine blk_drew ?_ | refine blk_alloc ?_ _)); exact BK397.out), (by repeat (first | (with_reducible first | exact HB.out | apply below_alloc | apply pw_below_drewN | apply below_drew1 | refine below_set ?_ GE384.out | refine below_set ?_ GE385.out | refine below_set ?_ GE397.out | refine below_set ?_ GE409.out) | exact HB.out)), fun _ h1_ => absurd ((up_self b 6).symm.trans h1_) (by decide), fun _ => GW409.out, fun _ => GE409.out, fun _ => NB384_409.out, fun _ => NB409_384.out, fun _ => NB385_409.out, fun _ => NB409_385.out, fun _ => NB397_409.out, fun _ => NB409_397.out, fun _ => (by (with_reducible repeat (first | refine blk_drewN ?_ _ | refine blk_drew ?_ | refine blk_alloc ?_ _)); refine blk_put (cs := #[.int .i64 t406, .int .i64 t407, .int .i64 0]) ?_ 2 _ rfl; (with_reducible repeat (first | refine blk_drewN ?_ _ | refine blk_drew ?_ | refine blk_alloc ?_ _)); refine blk_put (cs := #[.int .i64 t406, .int .i64 0, .int .i64 0]) ?_ 1 _ rfl; (with_reducible repeat (first | refine blk_drewN ?_ _ | refine blk_drew ?_ | refine blk_alloc ?_ _)); refine blk_put (cs := #[.int .i64 0, .int .i64 0, .int .i64 0]) ?_ 0 _ rfl; (with_reducible repeat (first | refine blk_drewN ?_ _ | refine blk_drew ?_ | refine blk_alloc ?_ _)); exact BK409.out), Q_X5_⟩
      exact steps_nil
    rintro b a w30 hall ⟨gb409, m5_, ha, Q_BK384, Q_BK385, Q_BK397, Q_HB, Q_BK409, Q_GW409, Q_GE409, Q_NB384_409, Q_NB409_384, Q_NB385_409, Q_NB409_385, Q_NB397_409, Q_NB409_397, Q_BK409_e6, Q_X5_⟩
    clear BK384 BK385 BK397 HB
    have hb0_ := hall 0 (by kernel_rfl)
    have hb1_ := hall 1 (by kernel_rfl)
    have hb2_ := hall 2 (by kernel_rfl)
    have hb3_ := hall 3 (by kernel_rfl)
    have hb4_ := hall 4 (by kernel_rfl)
    have hb5_ := hall 5 (by kernel_rfl)
    have hb6_ := hall 6 (by kernel_rfl)
    subst ha
    obtain rfl := Q_X5_ hb5_
    simp only [putSel, hb0_, hb1_, hb2_, hb3_, hb4_, hb5_, hb6_, if_true, Act.put, List.setIfInBounds_toArray, List.set_cons_zero, List.set_cons_succ]
    have BK384 := Aside0.mk Q_BK384
    clear Q_BK384
    have BK385 := Aside0.mk Q_BK385
    clear Q_BK385
    have BK397 := Aside0.mk Q_BK397
    clear Q_BK397
    have HB := Aside0.mk Q_HB
    clear Q_HB
    clear Q_BK409
    have GW409 := Aside0.mk (Q_GW409 hb5_)
    clear Q_GW409
    have GE409 := Aside0.mk (Q_GE409 hb5_)
    clear Q_GE409
    have NB384_409 := Aside0.mk (Q_NB384_409 hb5_)
    clear Q_NB384_409
    have NB409_384 := Aside0.mk (Q_NB409_384 hb5_)
    clear Q_NB409_384
    have NB385_409 := Aside0.mk (Q_NB385_409 hb5_)
    clear Q_NB385_409
    have NB409_385 := Aside0.mk (Q_NB409_385 hb5_)
    clear Q_NB409_385
    have NB397_409 := Aside0.mk (Q_NB397_409 hb5_)
    clear Q_NB397_409
    have NB409_397 := Aside0.mk (Q_NB409_397 hb5_)
    clear Q_NB409_397
    have BK409 := Aside0.mk (Q_BK409_e6 hb6_)
    clear Q_BK409_e6
    clear hall hb0_ hb1_ hb2_ hb3_ hb4_ hb5_ hb6_
    have hnb31 := NB409_384.out
    have hnc31 := NB384_409.out
    have hnb32 := NB409_385.out
    have hnc32 := NB385_409.out
    have hnb33 := NB409_397.out
    have hnc33 := NB397_409.out
    have hcz34_0 : w30.cell? ⟨gb409, 0, none⟩ = some (.int .i64 t406) := (blk_cell BK409.out 0).trans rfl
    have hcz34_1 : w30.cell? ⟨gb409, 1, none⟩ = some (.int .i64 t407) := (blk_cell BK409.out 1).trans rfl
    have hcz34_2 : w30.cell? ⟨gb409, 2, none⟩ = some (.int .i64 t408) := (blk_cell BK409.out 2).trans rfl
    have hfz34_0 := blk_frozen BK409.out 0
    have hfz34_1 := blk_frozen BK409.out 1
    have hfz34_2 := blk_frozen BK409.out 2
    have hnb35 := NB397_384.out
    have hnc35 := NB384_397.out
    have hnb36 := NB397_385.out
    have hnc36 := NB385_397.out
    have hcz37_0 : w30.cell? ⟨gb397, 0, none⟩ = some (.int .i64 t394) := (blk_cell BK397.out 0).trans rfl
    have hcz37_1 : w30.cell? ⟨gb397, 1, none⟩ = some (.int .i64 t395) := (blk_cell BK397.out 1).trans rfl
    have hcz37_2 : w30.cell? ⟨gb397, 2, none⟩ = some (.int .i64 t396) := (blk_cell BK397.out 2).trans rfl
    have hfz37_0 := blk_frozen BK397.out 0
    have hfz37_1 := blk_frozen BK397.out 1
    have hfz37_2 := blk_frozen BK397.out 2
    try go_wp2_with (first | ((with_reducible refine gate_callee (f := 50) rfl ?_); refine goesL_ (some 19) rfl rfl Try.func50 (by kernel_rfl) rfl #[.agg #[.int .i64 t406, .int .i64 t407, .int .i64 t408], .agg #[.int .i64 t394, .int .i64 t395, .int .i64 t396]] rfl (by (try simp only [List.map_toArray, List.map_cons, List.map_nil]); first | done | rfl | (simp only [List.length_drop, List.length_take]; rfl)) ?_; (with_reducible refine (laws_eqIntA3.calls k t406 t407 t408 t394 t395 t396 true _ A9.out).mono ?_); rintro e w38 ⟨rfl, hb⟩; refine ⟨_, rfl, ?_⟩; have n0_ := Aside0.mk (blk_below (g := gb384) (o := .cells #[.int .i64 a0_0, .int .i64 a0_1, .int .i64 a0_2, .int .i64 a0_3] 36 (0, 0)) (by (with_reducible repeat (first | refine blk_drewN ?_ _ | refine blk_drew ?_ | refine blk_alloc ?_ _)); exact BK384.out) hb); have n1_ := Aside0.mk (blk_below (g := gb385) (o := .cells #[.int .i64 a1_0, .int .i64 a1_1, .int .i64 a1_2, .int .i64 a1_3] 36 (0, 0)) (by (with_reducible repeat (first | refine blk_drewN ?_ _ | refine blk_drew ?_ | refine blk_alloc ?_ _)); exact BK385.out) hb); have n2_ := Aside0.mk (blk_below (g := gb397) (o := .cells #[.int .i64 t394, .int .i64 t395, .int .i64 t396] 54 (0, 0)) (by (with_reducible repeat (first | refine blk_drewN ?_ _ | refine blk_drew ?_ | refine blk_alloc ?_ _)); exact BK397.out) hb); have n3_ := Aside0.mk (blk_below (g := gb409) (o := .cells #[.int .i64 t406, .int .i64 t407, .int .i64 t408] 54 (0, 0)) (by (with_reducible repeat (first | refine blk_drewN ?_ _ | refine blk_drew ?_ | refine blk_alloc ?_ _)); exact BK409.out) hb); have n4_ := Aside0.mk (below_step (by repeat (first | (with_reducible first | exact HB.out | apply below_alloc | apply pw_below_drewN | apply below_drew1 | refine below_set ?_ GE384.out | refine below_set ?_ GE385.out | refine below_set ?_ GE397.out | refine below_set ?_ GE409.out) | exact HB.out)) hb); clear BK384; clear BK385; clear BK397; clear BK409; clear HB; have BK384 := n0_; have BK385 := n1_; have BK397 := n2_; have BK409 := n3_; have HB := n4_; clear n0_ n1_ n2_ n3_ n4_; (try clear hb); (try clear hb2); (try clear hk); (try clear hi)))
    go_ret
    exact ⟨by first | rfl | (simp [errW_none, errW_some] <;> rfl) | (simp [*, errW_none, errW_some] <;> rfl), by repeat (first | (with_reducible first | exact HB.out | apply below_alloc | apply pw_below_drewN | apply below_drew1 | refine below_set ?_ GE384.out | refine below_set ?_ GE385.out | refine below_set ?_ GE397.out | refine below_set ?_ GE409.out) | exact HB.out)⟩
  · replace c10 := Bool.eq_false_iff.mpr c10
    subst c10
    have H1 : (some false) = some r := by rw [if_neg (show ¬ (false = true) by decide)] at H; exact H
    clear H
    have H := H1
    clear H1
    obtain rfl := Option.some.inj H
    go_enter Try.func10, Try.ntmps10
    try go_wp2_with (first | ((with_reducible refine gate_dst (N := 2) rfl ?_); refine box_event ?hg (N := 2) ?hd (cs := #[.int .i64 a0_0, .int .i64 a0_1, .int .i64 a0_2, .int .i64 a0_3]) (t := 36) ?hr ?_; (case hd => rfl); (case hg => rfl); (case hr => first | (go_simp; done) | (go_simp; rfl)); intro gb384 hg w39 hbox hb; have n0_ := Aside0.mk (below_step (by repeat (first | (with_reducible first | exact HB.out | apply below_alloc | apply pw_below_drewN | apply below_drew1) | exact HB.out)) hb); have n1_ := Aside0.mk (hbox); have n2_ := Aside0.mk ((by rw [hg]; exact (below_size (by repeat (first | (with_reducible first | exact HB.out | apply below_alloc | apply pw_below_drewN | apply below_drew1) | exact HB.out))) : w.heap.size ≤ gb384)); have n3_ := Aside0.mk ((by rw [hg]; exact (below_size (by repeat (first | (with_reducible first | exact HB.out | apply below_alloc | apply pw_below_drewN | apply below_drew1) | exact HB.out))) : w.heap.size ≤ gb384)); clear HB; have HB := n0_; have BK384 := n1_; have GW384 := n2_; have GE384 := n3_; clear n0_ n1_ n2_ n3_; clear hb hbox hg) | ((with_reducible refine gate_dst (N := 3) rfl ?_); refine box_event ?hg (N := 3) ?hd (cs := #[.int .i64 a1_0, .int .i64 a1_1, .int .i64 a1_2, .int .i64 a1_3]) (t := 36) ?hr ?_; (case hd => rfl); (case hg => rfl); (case hr => first | (go_simp; done) | (go_simp; rfl)); intro gb385 hg w40 hbox hb; have n0_ := Aside0.mk (blk_below (g := gb384) (o := .cells #[.int .i64 a0_0, .int .i64 a0_1, .int .i64 a0_2, .int .i64 a0_3] 36 (0, 0)) (by (with_reducible repeat (first | refine blk_drewN ?_ _ | refine blk_drew ?_ | refine blk_alloc ?_ _)); exact BK384.out) hb); have n1_ := Aside0.mk (below_step (by repeat (first | (with_reducible first | exact HB.out | apply below_alloc | apply pw_below_drewN | apply below_drew1 | refine below_set ?_ GE384.out) | exact HB.out)) hb); have n2_ := Aside0.mk (hbox); have n3_ := Aside0.mk ((by rw [hg]; exact (below_size (by repeat (first | (with_reducible first | exact HB.out | apply below_alloc | apply pw_below_drewN | apply below_drew1 | refine below_set ?_ GE384.out) | exact HB.out))) : w.heap.size ≤ gb385)); have n4_ := Aside0.mk ((by rw [hg]; exact (below_size (by repeat (first | (with_reducible first | exact HB.out | apply below_alloc | apply pw_below_drewN | apply below_drew1 | refine below_set ?_ GE384.out) | exact HB.out))) : w.heap.size ≤ gb385)); have n5_ := Aside0.mk ((by rw [hg]; exact Nat.ne_of_lt (blk_lt (g := gb384) (o := .cells #[.int .i64 a0_0, .int .i64 a0_1, .int .i64 a0_2, .int .i64 a0_3] 36 (0, 0)) (by (with_reducible repeat (first | refine blk_drewN ?_ _ | refine blk_drew ?_ | refine blk_alloc ?_ _)); exact BK384.out)) : gb384 ≠ gb385)); have n6_ := Aside0.mk ((by rw [hg]; exact Nat.ne_of_gt (blk_lt (g := gb384) (o := .cells #[.int .i64 a0_0, .int .i64 a0_1, .int .i64 a0_2, .int .i64 a0_3] 36 (0, 0)) (by (with_reducible repeat (first | refine blk_drewN ?_ _ | refine blk_drew ?_ | refine blk_alloc ?_ _)); exact BK384.out)) : gb385 ≠ gb384)); clear BK384; clear HB; have BK384 := n0_; have HB := n1_; have BK385 := n2_; have GW385 := n3_; have GE385 := n4_; have NB384_385 := n5_; have NB385_384 := n6_; clear n0_ n1_ n2_ n3_ n4_ n5_ n6_; clear hb hbox hg))
    have n0_ := Aside0.mk (blk_drew BK384.out)
    have n1_ := Aside0.mk (blk_drew BK385.out)
    have n2_ := Aside0.mk (below_drew1 HB.out)
    clear BK384
    clear BK385
    clear HB
    have BK384 := n0_
    have BK385 := n1_
    have HB := n2_
    clear n0_ n1_ n2_
    refine start_ (n := 7) (S := fun w' => True) (ds := []) #[false, false, false, false, false, false, false] (by kernel_rfl) rfl rfl trivial (fun hHeld => ?_); refine with_tabW laws_FnExactCross.tab1 laws_FnExactCross.bits1 (fun HT_ HW_ => ?_)
    generalize w40.drew = w41 at BK384 BK385 HB hHeld ⊢
    refine inv_at [0, 1, 2, 3, 4, 5, 6] (fun a0_ b a w' => ∃ (gb397 : Nat) (m5_ : Value), a = putSel a0_ b [(0, 7, .agg #[.int .i64 a0_0, .int .i64 a0_1, .int .i64 a0_2, .int .i64 a0_3]), (1, 8, .agg #[.int .i64 t386, .int .i64 t387, .int .i64 t388, .int .i64 t389]), (2, 9, .agg #[.int .i64 a1_0, .int .i64 a1_1, .int .i64 a1_2, .int .i64 a1_3]), (3, 10, .agg #[.int .i64 t390, .int .i64 t391, .int .i64 t392, .int .i64 t393]), (4, 11, .agg #[.int .i64 t394, .int .i64 t395, .int .i64 t396]), (5, 5, m5_)] ∧ (w'.heap[gb384]? = some (.cells #[.int .i64 a0_0, .int .i64 a0_1, .int .i64 a0_2, .int .i64 a0_3] 36 (0, 0))) ∧ (w'.heap[gb385]? = some (.cells #[.int .i64 a1_0, .int .i64 a1_1, .int .i64 a1_2, .int .i64 a1_3] 36 (0, 0))) ∧ (Below w.heap.size w w') ∧ (b 5 = true → b 6 = false → w'.heap[gb397]? = some (.cells #[.int .i64 0, .int .i64 0, .int .i64 0] 54 (0, 0))) ∧ (b 5 = true → w.heap.size ≤ gb397) ∧ (b 5 = true → w.heap.size ≤ gb397) ∧ (b 5 = true → gb384 ≠ gb397) ∧ (b 5 = true → gb397 ≠ gb384) ∧ (b 5 = true → gb385 ≠ gb397) ∧ (b 5 = true → gb397 ≠ gb385) ∧ (b 6 = true → w'.heap[gb397]? = some (.cells #[.int .i64 t394, .int .i64 t395, .int .i64 t396] 54 (0, 0))) ∧ (b 5 = true → (m5_ : Value) = .pointer (some ⟨gb397, 0, none⟩))) HT_.out HW_.out (by kernel_rfl) (by kernel_rfl) ?_ ?_ ?_
    · exact ⟨0, .bool false, by simp only [putSel, Bool.false_eq_true, if_false], BK384.out, BK385.out, HB.out, fun h_ => absurd h_ (by decide), fun h_ => absurd h_ (by decide), fun h_ => absurd h_ (by decide), fun h_ => absurd h_ (by decide), fun h_ => absurd h_ (by decide), fun h_ => absurd h_ (by decide), fun h_ => absurd h_ (by decide), fun h_ => absurd h_ (by decide), fun h_ => absurd h_ (by decide)⟩
    · skip
      clear BK384 BK385 HB
      refine steps_cons ?_ ?_
      · rintro b a w' ⟨gb397, m5_, ha, Q_BK384, Q_BK385, Q_HB, Q_BK397, Q_GW397, Q_GE397, Q_NB384_397, Q_NB397_384, Q_NB385_397, Q_NB397_385, Q_BK397_e6, Q_X5_⟩ hb_ hon hoff
        refine ⟨_, rfl, fun K hK => ?_⟩
        have e2 : a.tmps[2]? = some (.pointer (some ⟨gb384, 0, none⟩)) := by rw [ha]; exact (putSel_off rfl).trans rfl
        replace ha := Aside0.mk ha
        have BK384 := Aside0.mk Q_BK384
        have BK385 := Aside0.mk Q_BK385
        have HB := Aside0.mk Q_HB
        have hc0_ : w'.cell? ⟨gb384, 0, none⟩ = some (.int .i64 a0_0) := (blk_cell BK384.out 0).trans rfl
        have hc1_ : w'.cell? ⟨gb384, 1, none⟩ = some (.int .i64 a0_1) := (blk_cell BK384.out 1).trans rfl
        have hc2_ : w'.cell? ⟨gb384, 2, none⟩ = some (.int .i64 a0_2) := (blk_cell BK384.out 2).trans rfl
        have hc3_ : w'.cell? ⟨gb384, 3, none⟩ = some (.int .i64 a0_3) := (blk_cell BK384.out 3).trans rfl
        refine value_ (w1 := w') (v := .agg #[.int .i64 a0_0, .int .i64 a0_1, .int .i64 a0_2, .int .i64 a0_3]) (by rfl) rfl ?_ ?_
        · go_simp
          (try simp only [i64_w])
          try rfl
        refine hK.out _ _ ⟨gb397, m5_, (by rw [ha.out]; exact putSel_upk 0 hb_ rfl rfl rfl), Q_BK384, Q_BK385, Q_HB, Q_BK397, Q_GW397, Q_GE397, Q_NB384_397, Q_NB397_384, Q_NB385_397, Q_NB397_385, fun h0_ => absurd ((hoff 6 (by kernel_rfl)).symm.trans h0_) (by decide), Q_X5_⟩
      refine steps_cons ?_ ?_
      · rintro b a w' ⟨gb397, m5_, ha, Q_BK384, Q_BK385, Q_HB, Q_BK397, Q_GW397, Q_GE397, Q_NB384_397, Q_NB397_384, Q_NB385_397, Q_NB397_385, Q_BK397_e6, Q_X5_⟩ hb_ hon hoff
        refine ⟨_, rfl, fun K hK => ?_⟩
        have e7 : a.tmps[7]? = some (.agg #[.int .i64 a0_0, .int .i64 a0_1, .int .i64 a0_2, .int .i64 a0_3]) := by rw [ha]; exact putSel_on (e := (0, 7, .agg #[.int .i64 a0_0, .int .i64 a0_1, .int .i64 a0_2, .int .i64 a0_3])) 0 rfl rfl (hon 0 (by kernel_rfl)) rfl
        replace ha := Aside0.mk ha
        have BK384 := Aside0.mk Q_BK384
        have BK385 := Aside0.mk Q_BK385
        have HB := Aside0.mk Q_HB
        refine goes_ Try.func36 (by kernel_rfl) rfl #[.agg #[.int .i64 a0_0, .int .i64 a0_1, .int .i64 a0_2, .int .i64 a0_3]] (by rfl) rfl rfl (by first | (simp only [List.map_toArray, List.map_cons, List.map_nil, Act.eval, Array.getD_eq_getD_getElem?, Option.getD_some, e7]; done) | (simp only [List.map_toArray, List.map_cons, List.map_nil, Act.eval, Array.getD_eq_getD_getElem?, Option.getD_some, e7]; rfl)) ?_
        with_reducible refine (laws_toPlane.calls a0_0 a0_1 a0_2 a0_3 t386 t387 t388 t389 _ A3.out).mono ?_
        rintro e w42 ⟨rfl, hb⟩
        refine ⟨_, rfl, ?_⟩
        have n0_ := Aside0.mk (blk_below (g := gb384) (o := .cells #[.int .i64 a0_0, .int .i64 a0_1, .int .i64 a0_2, .int .i64 a0_3] 36 (0, 0)) (by (with_reducible repeat (first | refine blk_drewN ?_ _ | refine blk_drew ?_ | refine blk_alloc ?_ _)); exact BK384.out) hb)
        have n1_ := Aside0.mk (blk_below (g := gb385) (o := .cells #[.int .i64 a1_0, .int .i64 a1_1, .int .i64 a1_2, .int .i64 a1_3] 36 (0, 0)) (by (with_reducible repeat (first | refine blk_drewN ?_ _ | refine blk_drew ?_ | refine blk_alloc ?_ _)); exact BK385.out) hb)
        have n2_ := Aside0.mk (below_step (by repeat (first | (with_reducible first | exact HB.out | apply below_alloc | apply pw_below_drewN | apply below_drew1 | refine below_set ?_ GE384.out | refine below_set ?_ GE385.out) | exact HB.out)) hb)
        have z_BK397 := fun (h0_ : b 5 = true) (h1_ : b 6 = false) => (show w42.heap[gb397]? = some (.cells #[.int .i64 0, .int .i64 0, .int .i64 0] 54 (0, 0)) from by first | exact (blk_below (g := gb397) (o := .cells #[.int .i64 0, .int .i64 0, .int .i64 0] 54 (0, 0)) (by (with_reducible repeat (first | refine blk_drewN ?_ _ | refine blk_drew ?_ | refine blk_alloc ?_ _)); exact (Q_BK397 h0_ h1_)) hb))
        clear BK384
        clear BK385
        clear HB
        have BK384 := n0_
        have BK385 := n1_
        have HB := n2_
        clear n0_ n1_ n2_
        (try clear hb)
        (try clear hb2)
        (try clear hk)
        (try clear hi)
        refine hK.out _ _ ⟨gb397, m5_, (by rw [ha.out]; exact putSel_upk 1 hb_ rfl rfl rfl), (by (with_reducible repeat (first | refine blk_drewN ?_ _ | refine blk_drew ?_ | refine blk_alloc ?_ _)); exact BK384.out), (by (with_reducible repeat (first | refine blk_drewN ?_ _ | refine blk_drew ?_ | refine blk_alloc ?_ _)); exact BK385.out), (by repeat (first | (with_reducible first | exact HB.out | apply below_alloc | apply pw_below_drewN | apply below_drew1 | refine below_set ?_ GE384.out | refine below_set ?_ GE385.out) | exact HB.out)), z_BK397, Q_GW397, Q_GE397, Q_NB384_397, Q_NB397_384, Q_NB385_397, Q_NB397_385, fun h0_ => absurd ((hoff 6 (by kernel_rfl)).symm.trans h0_) (by decide), Q_X5_⟩
      refine steps_cons ?_ ?_
      · rintro b a w' ⟨gb397, m5_, ha, Q_BK384, Q_BK385, Q_HB, Q_BK397, Q_GW397, Q_GE397, Q_NB384_397, Q_NB397_384, Q_NB385_397, Q_NB397_385, Q_BK397_e6, Q_X5_⟩ hb_ hon hoff
        refine ⟨_, rfl, fun K hK => ?_⟩
        have e3 : a.tmps[3]? = some (.pointer (some ⟨gb385, 0, none⟩)) := by rw [ha]; exact (putSel_off rfl).trans rfl
        replace ha := Aside0.mk ha
        have BK384 := Aside0.mk Q_BK384
        have BK385 := Aside0.mk Q_BK385
        have HB := Aside0.mk Q_HB
        have hc0_ : w'.cell? ⟨gb385, 0, none⟩ = some (.int .i64 a1_0) := (blk_cell BK385.out 0).trans rfl
        have hc1_ : w'.cell? ⟨gb385, 1, none⟩ = some (.int .i64 a1_1) := (blk_cell BK385.out 1).trans rfl
        have hc2_ : w'.cell? ⟨gb385, 2, none⟩ = some (.int .i64 a1_2) := (blk_cell BK385.out 2).trans rfl
        have hc3_ : w'.cell? ⟨gb385, 3, none⟩ = some (.int .i64 a1_3) := (blk_cell BK385.out 3).trans rfl
        refine value_ (w1 := w') (v := .agg #[.int .i64 a1_0, .int .i64 a1_1, .int .i64 a1_2, .int .i64 a1_3]) (by rfl) rfl ?_ ?_
        · go_simp
          (try simp only [i64_w])
          try rfl
        refine hK.out _ _ ⟨gb397, m5_, (by rw [ha.out]; exact putSel_upk 2 hb_ rfl rfl rfl), Q_BK384, Q_BK385, Q_HB, Q_BK397, Q_GW397, Q_GE397, Q_NB384_397, Q_NB397_384, Q_NB385_397, Q_NB397_385, fun h0_ => absurd ((hoff 6 (by kernel_rfl)).symm.trans h0_) (by decide), Q_X5_⟩
      refine steps_cons ?_ ?_
      · rintro b a w' ⟨gb397, m5_, ha, Q_BK384, Q_BK385, Q_HB, Q_BK397, Q_GW397, Q_GE397, Q_NB384_397, Q_NB397_384, Q_NB385_397, Q_NB397_385, Q_BK397_e6, Q_X5_⟩ hb_ hon hoff
        refine ⟨_, rfl, fun K hK => ?_⟩
        have e9 : a.tmps[9]? = some (.agg #[.int .i64 a1_0, .int .i64 a1_1, .int .i64 a1_2, .int .i64 a1_3]) := by rw [ha]; exact putSel_on (e := (2, 9, .agg #[.int .i64 a1_0, .int .i64 a1_1, .int .i64 a1_2, .int .i64 a1_3])) 2 rfl rfl (hon 2 (by kernel_rfl)) rfl
        replace ha := Aside0.mk ha
        have BK384 := Aside0.mk Q_BK384
        have BK385 := Aside0.mk Q_BK385
        have HB := Aside0.mk Q_HB
        refine goes_ Try.func36 (by kernel_rfl) rfl #[.agg #[.int .i64 a1_0, .int .i64 a1_1, .int .i64 a1_2, .int .i64 a1_3]] (by rfl) rfl rfl (by first | (simp only [List.map_toArray, List.map_cons, List.map_nil, Act.eval, Array.getD_eq_getD_getElem?, Option.getD_some, e9]; done) | (simp only [List.map_toArray, List.map_cons, List.map_nil, Act.eval, Array.getD_eq_getD_getElem?, Option.getD_some, e9]; rfl)) ?_
        with_reducible refine (laws_toPlane.calls a1_0 a1_1 a1_2 a1_3 t390 t391 t392 t393 _ A4.out).mono ?_
        rintro e w44 ⟨rfl, hb⟩
        refine ⟨_, rfl, ?_⟩
        have n0_ := Aside0.mk (blk_below (g := gb384) (o := .cells #[.int .i64 a0_0, .int .i64 a0_1, .int .i64 a0_2, .int .i64 a0_3] 36 (0, 0)) (by (with_reducible repeat (first | refine blk_drewN ?_ _ | refine blk_drew ?_ | refine blk_alloc ?_ _)); exact BK384.out) hb)
        have n1_ := Aside0.mk (blk_below (g := gb385) (o := .cells #[.int .i64 a1_0, .int .i64 a1_1, .int .i64 a1_2, .int .i64 a1_3] 36 (0, 0)) (by (with_reducible repeat (first | refine blk_drewN ?_ _ | refine blk_drew ?_ | refine blk_alloc ?_ _)); exact BK385.out) hb)
        have n2_ := Aside0.mk (below_step (by repeat (first | (with_reducible first | exact HB.out | apply below_alloc | apply pw_below_drewN | apply below_drew1 | refine below_set ?_ GE384.out | refine below_set ?_ GE385.out) | exact HB.out)) hb)
        have z_BK397 := fun (h0_ : b 5 = true) (h1_ : b 6 = false) => (show w44.heap[gb397]? = some (.cells #[.int .i64 0, .int .i64 0, .int .i64 0] 54 (0, 0)) from by first | exact (blk_below (g := gb397) (o := .cells #[.int .i64 0, .int .i64 0, .int .i64 0] 54 (0, 0)) (by (with_reducible repeat (first | refine blk_drewN ?_ _ | refine blk_drew ?_ | refine blk_alloc ?_ _)); exact (Q_BK397 h0_ h1_)) hb))
        clear BK384
        clear BK385
        clear HB
        have BK384 := n0_
        have BK385 := n1_
        have HB := n2_
        clear n0_ n1_ n2_
        (try clear hb)
        (try clear hb2)
        (try clear hk)
        (try clear hi)
        refine hK.out _ _ ⟨gb397, m5_, (by rw [ha.out]; exact putSel_upk 3 hb_ rfl rfl rfl), (by (with_reducible repeat (first | refine blk_drewN ?_ _ | refine blk_drew ?_ | refine blk_alloc ?_ _)); exact BK384.out), (by (with_reducible repeat (first | refine blk_drewN ?_ _ | refine blk_drew ?_ | refine blk_alloc ?_ _)); exact BK385.out), (by repeat (first | (with_reducible first | exact HB.out | apply below_alloc | apply pw_below_drewN | apply below_drew1 | refine below_set ?_ GE384.out | refine below_set ?_ GE385.out) | exact HB.out)), z_BK397, Q_GW397, Q_GE397, Q_NB384_397, Q_NB397_384, Q_NB385_397, Q_NB397_385, fun h0_ => absurd ((hoff 6 (by kernel_rfl)).symm.trans h0_) (by decide), Q_X5_⟩
      refine steps_cons ?_ ?_
      · rintro b a w' ⟨gb397, m5_, ha, Q_BK384, Q_BK385, Q_HB, Q_BK397, Q_GW397, Q_GE397, Q_NB384_397, Q_NB397_384, Q_NB385_397, Q_NB397_385, Q_BK397_e6, Q_X5_⟩ hb_ hon hoff
        refine ⟨_, rfl, fun K hK => ?_⟩
        have e8 : a.tmps[8]? = some (.agg #[.int .i64 t386, .int .i64 t387, .int .i64 t388, .int .i64 t389]) := by rw [ha]; exact putSel_on (e := (1, 8, .agg #[.int .i64 t386, .int .i64 t387, .int .i64 t388, .int .i64 t389])) 1 rfl rfl (hon 1 (by kernel_rfl)) rfl
        have e10 : a.tmps[10]? = some (.agg #[.int .i64 t390, .int .i64 t391, .int .i64 t392, .int .i64 t393]) := by rw [ha]; exact putSel_on (e := (3, 10, .agg #[.int .i64 t390, .int .i64 t391, .int .i64 t392, .int .i64 t393])) 3 rfl rfl (hon 3 (by kernel_rfl)) rfl
        replace ha := Aside0.mk ha
        have BK384 := Aside0.mk Q_BK384
        have BK385 := Aside0.mk Q_BK385
        have HB := Aside0.mk Q_HB
        refine goes_ Try.func48 (by kernel_rfl) rfl #[.agg #[.int .i64 t386, .int .i64 t387, .int .i64 t388, .int .i64 t389], .agg #[.int .i64 t390, .int .i64 t391, .int .i64 t392, .int .i64 t393]] (by rfl) rfl rfl (by first | (simp only [List.map_toArray, List.map_cons, List.map_nil, Act.eval, Array.getD_eq_getD_getElem?, Option.getD_some, e8, e10]; done) | (simp only [List.map_toArray, List.map_cons, List.map_nil, Act.eval, Array.getD_eq_getD_getElem?, Option.getD_some, e8, e10]; rfl)) ?_
        with_reducible refine (spec_Cross.calls k t386 t387 t388 t389 t390 t391 t392 t393 t394 t395 t396 _ A5.out).mono ?_
        rintro e w45 ⟨rfl, hb⟩
        refine ⟨_, rfl, ?_⟩
        have n0_ := Aside0.mk (blk_below (g := gb384) (o := .cells #[.int .i64 a0_0, .int .i64 a0_1, .int .i64 a0_2, .int .i64 a0_3] 36 (0, 0)) (by (with_reducible repeat (first | refine blk_drewN ?_ _ | refine blk_drew ?_ | refine blk_alloc ?_ _)); exact BK384.out) hb)
        have n1_ := Aside0.mk (blk_below (g := gb385) (o := .cells #[.int .i64 a1_0, .int .i64 a1_1, .int .i64 a1_2, .int .i64 a1_3] 36 (0, 0)) (by (with_reducible repeat (first | refine blk_drewN ?_ _ | refine blk_drew ?_ | refine blk_alloc ?_ _)); exact BK385.out) hb)
        have n2_ := Aside0.mk (below_step (by repeat (first | (with_reducible first | exact HB.out | apply below_alloc | apply pw_below_drewN | apply below_drew1 | refine below_set ?_ GE384.out | refine below_set ?_ GE385.out) | exact HB.out)) hb)
        have z_BK397 := fun (h0_ : b 5 = true) (h1_ : b 6 = false) => (show w45.heap[gb397]? = some (.cells #[.int .i64 0, .int .i64 0, .int .i64 0] 54 (0, 0)) from by first | exact (blk_below (g := gb397) (o := .cells #[.int .i64 0, .int .i64 0, .int .i64 0] 54 (0, 0)) (by (with_reducible repeat (first | refine blk_drewN ?_ _ | refine blk_drew ?_ | refine blk_alloc ?_ _)); exact (Q_BK397 h0_ h1_)) hb))
        clear BK384
        clear BK385
        clear HB
        have BK384 := n0_
        have BK385 := n1_
        have HB := n2_
        clear n0_ n1_ n2_
        (try clear hb)
        (try clear hb2)
        (try clear hk)
        (try clear hi)
        refine hK.out _ _ ⟨gb397, m5_, (by rw [ha.out]; exact putSel_upk 4 hb_ rfl rfl rfl), (by (with_reducible repeat (first | refine blk_drewN ?_ _ | refine blk_drew ?_ | refine blk_alloc ?_ _)); exact BK384.out), (by (with_reducible repeat (first | refine blk_drewN ?_ _ | refine blk_drew ?_ | refine blk_alloc ?_ _)); exact BK385.out), (by repeat (first | (with_reducible first | exact HB.out | apply below_alloc | apply pw_below_drewN | apply below_drew1 | refine below_set ?_ GE384.out | refine below_set ?_ GE385.out) | exact HB.out)), z_BK397, Q_GW397, Q_GE397, Q_NB384_397, Q_NB397_384, Q_NB385_397, Q_NB397_385, fun h0_ => absurd ((hoff 6 (by kernel_rfl)).symm.trans h0_) (by decide), Q_X5_⟩
      refine steps_cons ?_ ?_
      · rintro b a w' ⟨gb397, m5_, ha, Q_BK384, Q_BK385, Q_HB, Q_BK397, Q_GW397, Q_GE397, Q_NB384_397, Q_NB397_384, Q_NB385_397, Q_NB397_385, Q_BK397_e6, Q_X5_⟩ hb_ hon hoff
        refine ⟨_, rfl, fun K hK => ?_⟩
        replace ha := Aside0.mk ha
        have BK384 := Aside0.mk Q_BK384
        have BK385 := Aside0.mk Q_BK385
        have HB := Aside0.mk Q_HB
        refine box_step ?hg (N := 5) ?hd (cs := #[.int .i64 0, .int .i64 0, .int .i64 0]) (t := 54) ?hr ?_; (case hd => rfl); (case hg => rfl); (case hr => first | (go_simp; done) | (go_simp; rfl))
        intro gb397 hg w42 hbox hb
        have n0_ := Aside0.mk (blk_below (g := gb384) (o := .cells #[.int .i64 a0_0, .int .i64 a0_1, .int .i64 a0_2, .int .i64 a0_3] 36 (0, 0)) (by (with_reducible repeat (first | refine blk_drewN ?_ _ | refine blk_drew ?_ | refine blk_alloc ?_ _)); exact BK384.out) hb)
        have n1_ := Aside0.mk (blk_below (g := gb385) (o := .cells #[.int .i64 a1_0, .int .i64 a1_1, .int .i64 a1_2, .int .i64 a1_3] 36 (0, 0)) (by (with_reducible repeat (first | refine blk_drewN ?_ _ | refine blk_drew ?_ | refine blk_alloc ?_ _)); exact BK385.out) hb)
        have n2_ := Aside0.mk (below_step (by repeat (first | (with_reducible first | exact HB.out | apply below_alloc | apply pw_below_drewN | apply below_drew1 | refine below_set ?_ GE384.out | refine below_set ?_ GE385.out) | exact HB.out)) hb)
        have n3_ := Aside0.mk (hbox)
        have n4_ := Aside0.mk ((by rw [hg]; exact (below_size (by repeat (first | (with_reducible first | exact HB.out | apply below_alloc | apply pw_below_drewN | apply below_drew1 | refine below_set ?_ GE384.out | refine below_set ?_ GE385.out) | exact HB.out))) : w.heap.size ≤ gb397))
        have n5_ := Aside0.mk ((by rw [hg]; exact (below_size (by repeat (first | (with_reducible first | exact HB.out | apply below_alloc | apply pw_below_drewN | apply below_drew1 | refine below_set ?_ GE384.out | refine below_set ?_ GE385.out) | exact HB.out))) : w.heap.size ≤ gb397))
        have n6_ := Aside0.mk ((by rw [hg]; exact Nat.ne_of_lt (blk_lt (g := gb384) (o := .cells #[.int .i64 a0_0, .int .i64 a0_1, .int .i64 a0_2, .int .i64 a0_3] 36 (0, 0)) (by (with_reducible repeat (first | refine blk_drewN ?_ _ | refine blk_drew ?_ | refine blk_alloc ?_ _)); exact BK384.out)) : gb384 ≠ gb397))
        have n7_ := Aside0.mk ((by rw [hg]; exact Nat.ne_of_gt (blk_lt (g := gb384) (o := .cells #[.int .i64 a0_0, .int .i64 a0_1, .int .i64 a0_2, .int .i64 a0_3] 36 (0, 0)) (by (with_reducible repeat (first | refine blk_drewN ?_ _ | refine blk_drew ?_ | refine blk_alloc ?_ _)); exact BK384.out)) : gb397 ≠ gb384))
        have n8_ := Aside0.mk ((by rw [hg]; exact Nat.ne_of_lt (blk_lt (g := gb385) (o := .cells #[.int .i64 a1_0, .int .i64 a1_1, .int .i64 a1_2, .int .i64 a1_3] 36 (0, 0)) (by (with_reducible repeat (first | refine blk_drewN ?_ _ | refine blk_drew ?_ | refine blk_alloc ?_ _)); exact BK385.out)) : gb385 ≠ gb397))
        have n9_ := Aside0.mk ((by rw [hg]; exact Nat.ne_of_gt (blk_lt (g := gb385) (o := .cells #[.int .i64 a1_0, .int .i64 a1_1, .int .i64 a1_2, .int .i64 a1_3] 36 (0, 0)) (by (with_reducible repeat (first | refine blk_drewN ?_ _ | refine blk_drew ?_ | refine blk_alloc ?_ _)); exact BK385.out)) : gb397 ≠ gb385))
        clear BK384
        clear BK385
        clear HB
        have BK384 := n0_
        have BK385 := n1_
        have HB := n2_
        have BK397 := n3_
        have GW397 := n4_
        have GE397 := n5_
        have NB384_397 := n6_
        have NB397_384 := n7_
        have NB385_397 := n8_
        have NB397_385 := n9_
        clear n0_ n1_ n2_ n3_ n4_ n5_ n6_ n7_ n8_ n9_
        clear hb hbox hg
        refine hK.out _ _ ⟨gb397, (.pointer (some ⟨gb397, 0, none⟩)), (by rw [ha.out]; exact putSel_upk 5 hb_ rfl rfl rfl), (by (with_reducible repeat (first | refine blk_drewN ?_ _ | refine blk_drew ?_ | refine blk_alloc ?_ _)); exact BK384.out), (by (with_reducible repeat (first | refine blk_drewN ?_ _ | refine blk_drew ?_ | refine blk_alloc ?_ _)); exact BK385.out), (by repeat (first | (with_reducible first | exact HB.out | apply below_alloc | apply pw_below_drewN | apply below_drew1 | refine below_set ?_ GE384.out | refine below_set ?_ GE385.out | refine below_set ?_ GE397.out) | exact HB.out)), fun _ _ => (by (with_reducible repeat (first | refine blk_drewN ?_ _ | refine blk_drew ?_ | refine blk_alloc ?_ _)); exact BK397.out), fun _ => GW397.out, fun _ => GE397.out, fun _ => NB384_397.out, fun _ => NB397_384.out, fun _ => NB385_397.out, fun _ => NB397_385.out, fun h0_ => absurd ((hoff 6 (by kernel_rfl)).symm.trans h0_) (by decide), fun _ => rfl⟩
      refine steps_cons ?_ ?_
      · rintro b a w' ⟨gb397, m5_, ha, Q_BK384, Q_BK385, Q_HB, Q_BK397, Q_GW397, Q_GE397, Q_NB384_397, Q_NB397_384, Q_NB385_397, Q_NB397_385, Q_BK397_e6, Q_X5_⟩ hb_ hon hoff
        refine ⟨_, rfl, fun K hK => ?_⟩
        have e5 : a.tmps[5]? = some (m5_) := by rw [ha]; exact putSel_on (e := (5, 5, m5_)) 5 rfl rfl (hon 5 (by kernel_rfl)) rfl
        rw [Q_X5_ (hon 5 (by kernel_rfl))] at e5
        have e11 : a.tmps[11]? = some (.agg #[.int .i64 t394, .int .i64 t395, .int .i64 t396]) := by rw [ha]; exact putSel_on (e := (4, 11, .agg #[.int .i64 t394, .int .i64 t395, .int .i64 t396])) 4 rfl rfl (hon 4 (by kernel_rfl)) rfl
        replace ha := Aside0.mk ha
        have BK384 := Aside0.mk Q_BK384
        have BK385 := Aside0.mk Q_BK385
        have HB := Aside0.mk Q_HB
        have BK397 := Aside0.mk (Q_BK397 (hon 5 (by kernel_rfl)) hb_)
        have GW397 := Aside0.mk (Q_GW397 (hon 5 (by kernel_rfl)))
        have GE397 := Aside0.mk (Q_GE397 (hon 5 (by kernel_rfl)))
        have NB384_397 := Aside0.mk (Q_NB384_397 (hon 5 (by kernel_rfl)))
        have NB397_384 := Aside0.mk (Q_NB397_384 (hon 5 (by kernel_rfl)))
        have NB385_397 := Aside0.mk (Q_NB385_397 (hon 5 (by kernel_rfl)))
        have NB397_385 := Aside0.mk (Q_NB397_385 (hon 5 (by kernel_rfl)))
        have hs47 : w'.cell? ⟨gb397, 0, none⟩ = some (.int .i64 0) := (blk_cell BK397.out 0).trans rfl
        have hfs47 := blk_frozen BK397.out 0
        have hns47_0 := NB384_397.out
        have hns47_1 := NB385_397.out
        have hms47_0 := NB397_384.out
        have hms47_1 := NB397_385.out
        have hs48 : w'.cell? ⟨gb397, 1, none⟩ = some (.int .i64 0) := (blk_cell BK397.out 1).trans rfl
        have hfs48 := blk_frozen BK397.out 1
        have hns48_0 := NB384_397.out
        have hns48_1 := NB385_397.out
        have hms48_0 := NB397_384.out
        have hms48_1 := NB397_385.out
        have hs49 : w'.cell? ⟨gb397, 2, none⟩ = some (.int .i64 0) := (blk_cell BK397.out 2).trans rfl
        have hfs49 := blk_frozen BK397.out 2
        have hns49_0 := NB384_397.out
        have hns49_1 := NB385_397.out
        have hms49_0 := NB397_384.out
        have hms49_1 := NB397_385.out
        refine skip_ (w1 := ?_) (by rfl) rfl ?_ ?_
        rotate_left
        · go_simp
          rfl
        refine hK.out _ _ ⟨gb397, m5_, (by rw [ha.out]; exact putSel_none (v := undef) rfl), (by (with_reducible repeat (first | refine blk_drewN ?_ _ | refine blk_drew ?_ | refine blk_alloc ?_ _)); refine blk_far ?_ NB384_397.out _; (with_reducible repeat (first | refine blk_drewN ?_ _ | refine blk_drew ?_ | refine blk_alloc ?_ _)); refine blk_far ?_ NB384_397.out _; (with_reducible repeat (first | refine blk_drewN ?_ _ | refine blk_drew ?_ | refine blk_alloc ?_ _)); refine blk_far ?_ NB384_397.out _; (with_reducible repeat (first | refine blk_drewN ?_ _ | refine blk_drew ?_ | refine blk_alloc ?_ _)); exact BK384.out), (by (with_reducible repeat (first | refine blk_drewN ?_ _ | refine blk_drew ?_ | refine blk_alloc ?_ _)); refine blk_far ?_ NB385_397.out _; (with_reducible repeat (first | refine blk_drewN ?_ _ | refine blk_drew ?_ | refine blk_alloc ?_ _)); refine blk_far ?_ NB385_397.out _; (with_reducible repeat (first | refine blk_drewN ?_ _ | refine blk_drew ?_ | refine blk_alloc ?_ _)); refine blk_far ?_ NB385_397.out _; (with_reducible repeat (first | refine blk_drewN ?_ _ | refine blk_drew ?_ | refine blk_alloc ?_ _)); exact BK385.out), (by repeat (first | (with_reducible first | exact HB.out | apply below_alloc | apply pw_below_drewN | apply below_drew1 | refine below_set ?_ GE384.out | refine below_set ?_ GE385.out | refine below_set ?_ GE397.out) | exact HB.out)), fun _ h1_ => absurd ((up_self b 6).symm.trans h1_) (by decide), fun _ => GW397.out, fun _ => GE397.out, fun _ => NB384_397.out, fun _ => NB397_384.out, fun _ => NB385_397.out, fun _ => NB397_385.out, fun _ => (by (with_reducible repeat (first | refine blk_drewN ?_ _ | refine blk_drew ?_ | refine blk_alloc ?_ _)); refine blk_put (cs := #[.int .i64 t394, .int .i64 t395, .int .i64 0]) ?_ 2 _ rfl; (with_reducible repeat (first | refine blk_drewN ?_ _ | refine blk_drew ?_ | refine blk_alloc ?_ _)); refine blk_put (cs := #[.int .i64 t394, .int .i64 0, .int .i64 0]) ?_ 1 _ rfl; (with_reducible repeat (first | refine blk_drewN ?_ _ | refine blk_drew ?_ | refine blk_alloc ?_ _)); refine blk_put (cs := #[.int .i64 0, .int .i64 0, .int .i64 0]) ?_ 0 _ rfl; (with_reducible repeat (first | refine blk_drewN ?_ _ | refine blk_drew ?_ | refine blk_alloc ?_ _)); exact BK397.out), Q_X5_⟩
      exact steps_nil
    rintro b a w49 hall ⟨gb397, m5_, ha, Q_BK384, Q_BK385, Q_HB, Q_BK397, Q_GW397, Q_GE397, Q_NB384_397, Q_NB397_384, Q_NB385_397, Q_NB397_385, Q_BK397_e6, Q_X5_⟩
    clear BK384 BK385 HB
    have hb0_ := hall 0 (by kernel_rfl)
    have hb1_ := hall 1 (by kernel_rfl)
    have hb2_ := hall 2 (by kernel_rfl)
    have hb3_ := hall 3 (by kernel_rfl)
    have hb4_ := hall 4 (by kernel_rfl)
    have hb5_ := hall 5 (by kernel_rfl)
    have hb6_ := hall 6 (by kernel_rfl)
    subst ha
    obtain rfl := Q_X5_ hb5_
    simp only [putSel, hb0_, hb1_, hb2_, hb3_, hb4_, hb5_, hb6_, if_true, Act.put, List.setIfInBounds_toArray, List.set_cons_zero, List.set_cons_succ]
    have BK384 := Aside0.mk Q_BK384
    clear Q_BK384
    have BK385 := Aside0.mk Q_BK385
    clear Q_BK385
    have HB := Aside0.mk Q_HB
    clear Q_HB
    clear Q_BK397
    have GW397 := Aside0.mk (Q_GW397 hb5_)
    clear Q_GW397
    have GE397 := Aside0.mk (Q_GE397 hb5_)
    clear Q_GE397
    have NB384_397 := Aside0.mk (Q_NB384_397 hb5_)
    clear Q_NB384_397
    have NB397_384 := Aside0.mk (Q_NB397_384 hb5_)
    clear Q_NB397_384
    have NB385_397 := Aside0.mk (Q_NB385_397 hb5_)
    clear Q_NB385_397
    have NB397_385 := Aside0.mk (Q_NB397_385 hb5_)
    clear Q_NB397_385
    have BK397 := Aside0.mk (Q_BK397_e6 hb6_)
    clear Q_BK397_e6
    clear hall hb0_ hb1_ hb2_ hb3_ hb4_ hb5_ hb6_
    try go_wp2
    have n0_ := Aside0.mk (blk_drew BK384.out)
    have n1_ := Aside0.mk (blk_drew BK385.out)
    have n2_ := Aside0.mk (blk_drew BK397.out)
    have n3_ := Aside0.mk (below_drew1 HB.out)
    clear BK384
    clear BK385
    clear BK397
    clear HB
    have BK384 := n0_
    have BK385 := n1_
    have BK397 := n2_
    have HB := n3_
    clear n0_ n1_ n2_ n3_
    refine start_ (n := 7) (S := fun w' => True) (ds := []) #[false, false, false, false, false, false, false] (by kernel_rfl) rfl rfl trivial (fun hHeld => ?_); refine with_tabW laws_FnExactCross.tab2 laws_FnExactCross.bits2 (fun HT_ HW_ => ?_)
    generalize w49.drew = w50 at BK384 BK385 BK397 HB hHeld ⊢
    refine inv_at [0, 1, 2, 3, 4, 5, 6] (fun a0_ b a w' => ∃ (gb409 : Nat) (m5_ : Value), a = putSel a0_ b [(0, 12, .agg #[.int .i64 a0_0, .int .i64 a0_1, .int .i64 a0_2, .int .i64 a0_3]), (1, 13, .agg #[.int .i64 t398, .int .i64 t399, .int .i64 t400, .int .i64 t401]), (2, 14, .agg #[.int .i64 a1_0, .int .i64 a1_1, .int .i64 a1_2, .int .i64 a1_3]), (3, 15, .agg #[.int .i64 t402, .int .i64 t403, .int .i64 t404, .int .i64 t405]), (4, 16, .agg #[.int .i64 t406, .int .i64 t407, .int .i64 t408]), (5, 6, m5_)] ∧ (w'.heap[gb384]? = some (.cells #[.int .i64 a0_0, .int .i64 a0_1, .int .i64 a0_2, .int .i64 a0_3] 36 (0, 0))) ∧ (w'.heap[gb385]? = some (.cells #[.int .i64 a1_0, .int .i64 a1_1, .int .i64 a1_2, .int .i64 a1_3] 36 (0, 0))) ∧ (w'.heap[gb397]? = some (.cells #[.int .i64 t394, .int .i64 t395, .int .i64 t396] 54 (0, 0))) ∧ (Below w.heap.size w w') ∧ (b 5 = true → b 6 = false → w'.heap[gb409]? = some (.cells #[.int .i64 0, .int .i64 0, .int .i64 0] 54 (0, 0))) ∧ (b 5 = true → w.heap.size ≤ gb409) ∧ (b 5 = true → w.heap.size ≤ gb409) ∧ (b 5 = true → gb384 ≠ gb409) ∧ (b 5 = true → gb409 ≠ gb384) ∧ (b 5 = true → gb385 ≠ gb409) ∧ (b 5 = true → gb409 ≠ gb385) ∧ (b 5 = true → gb397 ≠ gb409) ∧ (b 5 = true → gb409 ≠ gb397) ∧ (b 6 = true → w'.heap[gb409]? = some (.cells #[.int .i64 t406, .int .i64 t407, .int .i64 t408] 54 (0, 0))) ∧ (b 5 = true → (m5_ : Value) = .pointer (some ⟨gb409, 0, none⟩))) HT_.out HW_.out (by kernel_rfl) (by kernel_rfl) ?_ ?_ ?_
    · exact ⟨0, .bool false, by simp only [putSel, Bool.false_eq_true, if_false], BK384.out, BK385.out, BK397.out, HB.out, fun h_ => absurd h_ (by decide), fun h_ => absurd h_ (by decide), fun h_ => absurd h_ (by decide), fun h_ => absurd h_ (by decide), fun h_ => absurd h_ (by decide), fun h_ => absurd h_ (by decide), fun h_ => absurd h_ (by decide), fun h_ => absurd h_ (by decide), fun h_ => absurd h_ (by decide), fun h_ => absurd h_ (by decide), fun h_ => absurd h_ (by decide)⟩
    · skip
      clear BK384 BK385 BK397 HB
      refine steps_cons ?_ ?_
      · rintro b a w' ⟨gb409, m5_, ha, Q_BK384, Q_BK385, Q_BK397, Q_HB, Q_BK409, Q_GW409, Q_GE409, Q_NB384_409, Q_NB409_384, Q_NB385_409, Q_NB409_385, Q_NB397_409, Q_NB409_397, Q_BK409_e6, Q_X5_⟩ hb_ hon hoff
        refine ⟨_, rfl, fun K hK => ?_⟩
        have e2 : a.tmps[2]? = some (.pointer (some ⟨gb384, 0, none⟩)) := by rw [ha]; exact (putSel_off rfl).trans rfl
        replace ha := Aside0.mk ha
        have BK384 := Aside0.mk Q_BK384
        have BK385 := Aside0.mk Q_BK385
        have BK397 := Aside0.mk Q_BK397
        have HB := Aside0.mk Q_HB
        have hc0_ : w'.cell? ⟨gb384, 0, none⟩ = some (.int .i64 a0_0) := (blk_cell BK384.out 0).trans rfl
        have hc1_ : w'.cell? ⟨gb384, 1, none⟩ = some (.int .i64 a0_1) := (blk_cell BK384.out 1).trans rfl
        have hc2_ : w'.cell? ⟨gb384, 2, none⟩ = some (.int .i64 a0_2) := (blk_cell BK384.out 2).trans rfl
        have hc3_ : w'.cell? ⟨gb384, 3, none⟩ = some (.int .i64 a0_3) := (blk_cell BK384.out 3).trans rfl
        refine value_ (w1 := w') (v := .agg #[.int .i64 a0_0, .int .i64 a0_1, .int .i64 a0_2, .int .i64 a0_3]) (by rfl) rfl ?_ ?_
        · go_simp
          (try simp only [i64_w])
          try rfl
        refine hK.out _ _ ⟨gb409, m5_, (by rw [ha.out]; exact putSel_upk 0 hb_ rfl rfl rfl), Q_BK384, Q_BK385, Q_BK397, Q_HB, Q_BK409, Q_GW409, Q_GE409, Q_NB384_409, Q_NB409_384, Q_NB385_409, Q_NB409_385, Q_NB397_409, Q_NB409_397, fun h0_ => absurd ((hoff 6 (by kernel_rfl)).symm.trans h0_) (by decide), Q_X5_⟩
      refine steps_cons ?_ ?_
      · rintro b a w' ⟨gb409, m5_, ha, Q_BK384, Q_BK385, Q_BK397, Q_HB, Q_BK409, Q_GW409, Q_GE409, Q_NB384_409, Q_NB409_384, Q_NB385_409, Q_NB409_385, Q_NB397_409, Q_NB409_397, Q_BK409_e6, Q_X5_⟩ hb_ hon hoff
        refine ⟨_, rfl, fun K hK => ?_⟩
        have e12 : a.tmps[12]? = some (.agg #[.int .i64 a0_0, .int .i64 a0_1, .int .i64 a0_2, .int .i64 a0_3]) := by rw [ha]; exact putSel_on (e := (0, 12, .agg #[.int .i64 a0_0, .int .i64 a0_1, .int .i64 a0_2, .int .i64 a0_3])) 0 rfl rfl (hon 0 (by kernel_rfl)) rfl
        replace ha := Aside0.mk ha
        have BK384 := Aside0.mk Q_BK384
        have BK385 := Aside0.mk Q_BK385
        have BK397 := Aside0.mk Q_BK397
        have HB := Aside0.mk Q_HB
        refine goes_ Try.func36 (by kernel_rfl) rfl #[.agg #[.int .i64 a0_0, .int .i64 a0_1, .int .i64 a0_2, .int .i64 a0_3]] (by rfl) rfl rfl (by first | (simp only [List.map_toArray, List.map_cons, List.map_nil, Act.eval, Array.getD_eq_getD_getElem?, Option.getD_some, e12]; done) | (simp only [List.map_toArray, List.map_cons, List.map_nil, Act.eval, Array.getD_eq_getD_getElem?, Option.getD_some, e12]; rfl)) ?_
        with_reducible refine (laws_toPlane.calls a0_0 a0_1 a0_2 a0_3 t398 t399 t400 t401 _ A6.out).mono ?_
        rintro e w51 ⟨rfl, hb⟩
        refine ⟨_, rfl, ?_⟩
        have n0_ := Aside0.mk (blk_below (g := gb384) (o := .cells #[.int .i64 a0_0, .int .i64 a0_1, .int .i64 a0_2, .int .i64 a0_3] 36 (0, 0)) (by (with_reducible repeat (first | refine blk_drewN ?_ _ | refine blk_drew ?_ | refine blk_alloc ?_ _)); exact BK384.out) hb)
        have n1_ := Aside0.mk (blk_below (g := gb385) (o := .cells #[.int .i64 a1_0, .int .i64 a1_1, .int .i64 a1_2, .int .i64 a1_3] 36 (0, 0)) (by (with_reducible repeat (first | refine blk_drewN ?_ _ | refine blk_drew ?_ | refine blk_alloc ?_ _)); exact BK385.out) hb)
        have n2_ := Aside0.mk (blk_below (g := gb397) (o := .cells #[.int .i64 t394, .int .i64 t395, .int .i64 t396] 54 (0, 0)) (by (with_reducible repeat (first | refine blk_drewN ?_ _ | refine blk_drew ?_ | refine blk_alloc ?_ _)); exact BK397.out) hb)
        have n3_ := Aside0.mk (below_step (by repeat (first | (with_reducible first | exact HB.out | apply below_alloc | apply pw_below_drewN | apply below_drew1 | refine below_set ?_ GE384.out | refine below_set ?_ GE385.out | refine below_set ?_ GE397.out) | exact HB.out)) hb)
        have z_BK409 := fun (h0_ : b 5 = true) (h1_ : b 6 = false) => (show w51.heap[gb409]? = some (.cells #[.int .i64 0, .int .i64 0, .int .i64 0] 54 (0, 0)) from by first | exact (blk_below (g := gb409) (o := .cells #[.int .i64 0, .int .i64 0, .int .i64 0] 54 (0, 0)) (by (with_reducible repeat (first | refine blk_drewN ?_ _ | refine blk_drew ?_ | refine blk_alloc ?_ _)); exact (Q_BK409 h0_ h1_)) hb))
        clear BK384
        clear BK385
        clear BK397
        clear HB
        have BK384 := n0_
        have BK385 := n1_
        have BK397 := n2_
        have HB := n3_
        clear n0_ n1_ n2_ n3_
        (try clear hb)
        (try clear hb2)
        (try clear hk)
        (try clear hi)
        refine hK.out _ _ ⟨gb409, m5_, (by rw [ha.out]; exact putSel_upk 1 hb_ rfl rfl rfl), (by (with_reducible repeat (first | refine blk_drewN ?_ _ | refine blk_drew ?_ | refine blk_alloc ?_ _)); exact BK384.out), (by (with_reducible repeat (first | refine blk_drewN ?_ _ | refine blk_drew ?_ | refine blk_alloc ?_ _)); exact BK385.out), (by (with_reducible repeat (first | refine blk_drewN ?_ _ | refine blk_drew ?_ | refine blk_alloc ?_ _)); exact BK397.out), (by repeat (first | (with_reducible first | exact HB.out | apply below_alloc | apply pw_below_drewN | apply below_drew1 | refine below_set ?_ GE384.out | refine below_set ?_ GE385.out | refine below_set ?_ GE397.out) | exact HB.out)), z_BK409, Q_GW409, Q_GE409, Q_NB384_409, Q_NB409_384, Q_NB385_409, Q_NB409_385, Q_NB397_409, Q_NB409_397, fun h0_ => absurd ((hoff 6 (by kernel_rfl)).symm.trans h0_) (by decide), Q_X5_⟩
      refine steps_cons ?_ ?_
      · rintro b a w' ⟨gb409, m5_, ha, Q_BK384, Q_BK385, Q_BK397, Q_HB, Q_BK409, Q_GW409, Q_GE409, Q_NB384_409, Q_NB409_384, Q_NB385_409, Q_NB409_385, Q_NB397_409, Q_NB409_397, Q_BK409_e6, Q_X5_⟩ hb_ hon hoff
        refine ⟨_, rfl, fun K hK => ?_⟩
        have e3 : a.tmps[3]? = some (.pointer (some ⟨gb385, 0, none⟩)) := by rw [ha]; exact (putSel_off rfl).trans rfl
        replace ha := Aside0.mk ha
        have BK384 := Aside0.mk Q_BK384
        have BK385 := Aside0.mk Q_BK385
        have BK397 := Aside0.mk Q_BK397
        have HB := Aside0.mk Q_HB
        have hc0_ : w'.cell? ⟨gb385, 0, none⟩ = some (.int .i64 a1_0) := (blk_cell BK385.out 0).trans rfl
        have hc1_ : w'.cell? ⟨gb385, 1, none⟩ = some (.int .i64 a1_1) := (blk_cell BK385.out 1).trans rfl
        have hc2_ : w'.cell? ⟨gb385, 2, none⟩ = some (.int .i64 a1_2) := (blk_cell BK385.out 2).trans rfl
        have hc3_ : w'.cell? ⟨gb385, 3, none⟩ = some (.int .i64 a1_3) := (blk_cell BK385.out 3).trans rfl
        refine value_ (w1 := w') (v := .agg #[.int .i64 a1_0, .int .i64 a1_1, .int .i64 a1_2, .int .i64 a1_3]) (by rfl) rfl ?_ ?_
        · go_simp
          (try simp only [i64_w])
          try rfl
        refine hK.out _ _ ⟨gb409, m5_, (by rw [ha.out]; exact putSel_upk 2 hb_ rfl rfl rfl), Q_BK384, Q_BK385, Q_BK397, Q_HB, Q_BK409, Q_GW409, Q_GE409, Q_NB384_409, Q_NB409_384, Q_NB385_409, Q_NB409_385, Q_NB397_409, Q_NB409_397, fun h0_ => absurd ((hoff 6 (by kernel_rfl)).symm.trans h0_) (by decide), Q_X5_⟩
      refine steps_cons ?_ ?_
      · rintro b a w' ⟨gb409, m5_, ha, Q_BK384, Q_BK385, Q_BK397, Q_HB, Q_BK409, Q_GW409, Q_GE409, Q_NB384_409, Q_NB409_384, Q_NB385_409, Q_NB409_385, Q_NB397_409, Q_NB409_397, Q_BK409_e6, Q_X5_⟩ hb_ hon hoff
        refine ⟨_, rfl, fun K hK => ?_⟩
        have e14 : a.tmps[14]? = some (.agg #[.int .i64 a1_0, .int .i64 a1_1, .int .i64 a1_2, .int .i64 a1_3]) := by rw [ha]; exact putSel_on (e := (2, 14, .agg #[.int .i64 a1_0, .int .i64 a1_1, .int .i64 a1_2, .int .i64 a1_3])) 2 rfl rfl (hon 2 (by kernel_rfl)) rfl
        replace ha := Aside0.mk ha
        have BK384 := Aside0.mk Q_BK384
        have BK385 := Aside0.mk Q_BK385
        have BK397 := Aside0.mk Q_BK397
        have HB := Aside0.mk Q_HB
        refine goes_ Try.func36 (by kernel_rfl) rfl #[.agg #[.int .i64 a1_0, .int .i64 a1_1, .int .i64 a1_2, .int .i64 a1_3]] (by rfl) rfl rfl (by first | (simp only [List.map_toArray, List.map_cons, List.map_nil, Act.eval, Array.getD_eq_getD_getElem?, Option.getD_some, e14]; done) | (simp only [List.map_toArray, List.map_cons, List.map_nil, Act.eval, Array.getD_eq_getD_getElem?, Option.getD_some, e14]; rfl)) ?_
        with_reducible refine (laws_toPlane.calls a1_0 a1_1 a1_2 a1_3 t402 t403 t404 t405 _ A7.out).mono ?_
        rintro e w53 ⟨rfl, hb⟩
        refine ⟨_, rfl, ?_⟩
        have n0_ := Aside0.mk (blk_below (g := gb384) (o := .cells #[.int .i64 a0_0, .int .i64 a0_1, .int .i64 a0_2, .int .i64 a0_3] 36 (0, 0)) (by (with_reducible repeat (first | refine blk_drewN ?_ _ | refine blk_drew ?_ | refine blk_alloc ?_ _)); exact BK384.out) hb)
        have n1_ := Aside0.mk (blk_below (g := gb385) (o := .cells #[.int .i64 a1_0, .int .i64 a1_1, .int .i64 a1_2, .int .i64 a1_3] 36 (0, 0)) (by (with_reducible repeat (first | refine blk_drewN ?_ _ | refine blk_drew ?_ | refine blk_alloc ?_ _)); exact BK385.out) hb)
        have n2_ := Aside0.mk (blk_below (g := gb397) (o := .cells #[.int .i64 t394, .int .i64 t395, .int .i64 t396] 54 (0, 0)) (by (with_reducible repeat (first | refine blk_drewN ?_ _ | refine blk_drew ?_ | refine blk_alloc ?_ _)); exact BK397.out) hb)
        have n3_ := Aside0.mk (below_step (by repeat (first | (with_reducible first | exact HB.out | apply below_alloc | apply pw_below_drewN | apply below_drew1 | refine below_set ?_ GE384.out | refine below_set ?_ GE385.out | refine below_set ?_ GE397.out) | exact HB.out)) hb)
        have z_BK409 := fun (h0_ : b 5 = true) (h1_ : b 6 = false) => (show w53.heap[gb409]? = some (.cells #[.int .i64 0, .int .i64 0, .int .i64 0] 54 (0, 0)) from by first | exact (blk_below (g := gb409) (o := .cells #[.int .i64 0, .int .i64 0, .int .i64 0] 54 (0, 0)) (by (with_reducible repeat (first | refine blk_drewN ?_ _ | refine blk_drew ?_ | refine blk_alloc ?_ _)); exact (Q_BK409 h0_ h1_)) hb))
        clear BK384
        clear BK385
        clear BK397
        clear HB
        have BK384 := n0_
        have BK385 := n1_
        have BK397 := n2_
        have HB := n3_
        clear n0_ n1_ n2_ n3_
        (try clear hb)
        (try clear hb2)
        (try clear hk)
        (try clear hi)
        refine hK.out _ _ ⟨gb409, m5_, (by rw [ha.out]; exact putSel_upk 3 hb_ rfl rfl rfl), (by (with_reducible repeat (first | refine blk_drewN ?_ _ | refine blk_drew ?_ | refine blk_alloc ?_ _)); exact BK384.out), (by (with_reducible repeat (first | refine blk_drewN ?_ _ | refine blk_drew ?_ | refine blk_alloc ?_ _)); exact BK385.out), (by (with_reducible repeat (first | refine blk_drewN ?_ _ | refine blk_drew ?_ | refine blk_alloc ?_ _)); exact BK397.out), (by repeat (first | (with_reducible first | exact HB.out | apply below_alloc | apply pw_below_drewN | apply below_drew1 | refine below_set ?_ GE384.out | refine below_set ?_ GE385.out | refine below_set ?_ GE397.out) | exact HB.out)), z_BK409, Q_GW409, Q_GE409, Q_NB384_409, Q_NB409_384, Q_NB385_409, Q_NB409_385, Q_NB397_409, Q_NB409_397, fun h0_ => absurd ((hoff 6 (by kernel_rfl)).symm.trans h0_) (by decide), Q_X5_⟩
      refine steps_cons ?_ ?_
      · rintro b a w' ⟨gb409, m5_, ha, Q_BK384, Q_BK385, Q_BK397, Q_HB, Q_BK409, Q_GW409, Q_GE409, Q_NB384_409, Q_NB409_384, Q_NB385_409, Q_NB409_385, Q_NB397_409, Q_NB409_397, Q_BK409_e6, Q_X5_⟩ hb_ hon hoff
        refine ⟨_, rfl, fun K hK => ?_⟩
        have e13 : a.tmps[13]? = some (.agg #[.int .i64 t398, .int .i64 t399, .int .i64 t400, .int .i64 t401]) := by rw [ha]; exact putSel_on (e := (1, 13, .agg #[.int .i64 t398, .int .i64 t399, .int .i64 t400, .int .i64 t401])) 1 rfl rfl (hon 1 (by kernel_rfl)) rfl
        have e15 : a.tmps[15]? = some (.agg #[.int .i64 t402, .int .i64 t403, .int .i64 t404, .int .i64 t405]) := by rw [ha]; exact putSel_on (e := (3, 15, .agg #[.int .i64 t402, .int .i64 t403, .int .i64 t404, .int .i64 t405])) 3 rfl rfl (hon 3 (by kernel_rfl)) rfl
        replace ha := Aside0.mk ha
        have BK384 := Aside0.mk Q_BK384
        have BK385 := Aside0.mk Q_BK385
        have BK397 := Aside0.mk Q_BK397
        have HB := Aside0.mk Q_HB
        refine goes_ Try.func49 (by kernel_rfl) rfl #[.agg #[.int .i64 t398, .int .i64 t399, .int .i64 t400, .int .i64 t401], .agg #[.int .i64 t402, .int .i64 t403, .int .i64 t404, .int .i64 t405]] (by rfl) rfl rfl (by first | (simp only [List.map_toArray, List.map_cons, List.map_nil, Act.eval, Array.getD_eq_getD_getElem?, Option.getD_some, e13, e15]; done) | (simp only [List.map_toArray, List.map_cons, List.map_nil, Act.eval, Array.getD_eq_getD_getElem?, Option.getD_some, e13, e15]; rfl)) ?_
        with_reducible refine (impl_Cross.calls k t398 t399 t400 t401 t402 t403 t404 t405 t406 t407 t408 _ A8.out).mono ?_
        rintro e w54 ⟨rfl, hb⟩
        refine ⟨_, rfl, ?_⟩
        have n0_ := Aside0.mk (blk_below (g := gb384) (o := .cells #[.int .i64 a0_0, .int .i64 a0_1, .int .i64 a0_2, .int .i64 a0_3] 36 (0, 0)) (by (with_reducible repeat (first | refine blk_drewN ?_ _ | refine blk_drew ?_ | refine blk_alloc ?_ _)); exact BK384.out) hb)
        have n1_ := Aside0.mk (blk_below (g := gb385) (o := .cells #[.int .i64 a1_0, .int .i64 a1_1, .int .i64 a1_2, .int .i64 a1_3] 36 (0, 0)) (by (with_reducible repeat (first | refine blk_drewN ?_ _ | refine blk_drew ?_ | refine blk_alloc ?_ _)); exact BK385.out) hb)
        have n2_ := Aside0.mk (blk_below (g := gb397) (o := .cells #[.int .i64 t394, .int .i64 t395, .int .i64 t396] 54 (0, 0)) (by (with_reducible repeat (first | refine blk_drewN ?_ _ | refine blk_drew ?_ | refine blk_alloc ?_ _)); exact BK397.out) hb)
        have n3_ := Aside0.mk (below_step (by repeat (first | (with_reducible first | exact HB.out | apply below_alloc | apply pw_below_drewN | apply below_drew1 | refine below_set ?_ GE384.out | refine below_set ?_ GE385.out | refine below_set ?_ GE397.out) | exact HB.out)) hb)
        have z_BK409 := fun (h0_ : b 5 = true) (h1_ : b 6 = false) => (show w54.heap[gb409]? = some (.cells #[.int .i64 0, .int .i64 0, .int .i64 0] 54 (0, 0)) from by first | exact (blk_below (g := gb409) (o := .cells #[.int .i64 0, .int .i64 0, .int .i64 0] 54 (0, 0)) (by (with_reducible repeat (first | refine blk_drewN ?_ _ | refine blk_drew ?_ | refine blk_alloc ?_ _)); exact (Q_BK409 h0_ h1_)) hb))
        clear BK384
        clear BK385
        clear BK397
        clear HB
        have BK384 := n0_
        have BK385 := n1_
        have BK397 := n2_
        have HB := n3_
        clear n0_ n1_ n2_ n3_
        (try clear hb)
        (try clear hb2)
        (try clear hk)
        (try clear hi)
        refine hK.out _ _ ⟨gb409, m5_, (by rw [ha.out]; exact putSel_upk 4 hb_ rfl rfl rfl), (by (with_reducible repeat (first | refine blk_drewN ?_ _ | refine blk_drew ?_ | refine blk_alloc ?_ _)); exact BK384.out), (by (with_reducible repeat (first | refine blk_drewN ?_ _ | refine blk_drew ?_ | refine blk_alloc ?_ _)); exact BK385.out), (by (with_reducible repeat (first | refine blk_drewN ?_ _ | refine blk_drew ?_ | refine blk_alloc ?_ _)); exact BK397.out), (by repeat (first | (with_reducible first | exact HB.out | apply below_alloc | apply pw_below_drewN | apply below_drew1 | refine below_set ?_ GE384.out | refine below_set ?_ GE385.out | refine below_set ?_ GE397.out) | exact HB.out)), z_BK409, Q_GW409, Q_GE409, Q_NB384_409, Q_NB409_384, Q_NB385_409, Q_NB409_385, Q_NB397_409, Q_NB409_397, fun h0_ => absurd ((hoff 6 (by kernel_rfl)).symm.trans h0_) (by decide), Q_X5_⟩
      refine steps_cons ?_ ?_
      · rintro b a w' ⟨gb409, m5_, ha, Q_BK384, Q_BK385, Q_BK397, Q_HB, Q_BK409, Q_GW409, Q_GE409, Q_NB384_409, Q_NB409_384, Q_NB385_409, Q_NB409_385, Q_NB397_409, Q_NB409_397, Q_BK409_e6, Q_X5_⟩ hb_ hon hoff
        refine ⟨_, rfl, fun K hK => ?_⟩
        replace ha := Aside0.mk ha
        have BK384 := Aside0.mk Q_BK384
        have BK385 := Aside0.mk Q_BK385
        have BK397 := Aside0.mk Q_BK397
        have HB := Aside0.mk Q_HB
        refine box_step ?hg (N := 6) ?hd (cs := #[.int .i64 0, .int .i64 0, .int .i64 0]) (t := 54) ?hr ?_; (case hd => rfl); (case hg => rfl); (case hr => first | (go_simp; done) | (go_simp; rfl))
        intro gb409 hg w51 hbox hb
        have n0_ := Aside0.mk (blk_below (g := gb384) (o := .cells #[.int .i64 a0_0, .int .i64 a0_1, .int .i64 a0_2, .int .i64 a0_3] 36 (0, 0)) (by (with_reducible repeat (first | refine blk_drewN ?_ _ | refine blk_drew ?_ | refine blk_alloc ?_ _)); exact BK384.out) hb)
        have n1_ := Aside0.mk (blk_below (g := gb385) (o := .cells #[.int .i64 a1_0, .int .i64 a1_1, .int .i64 a1_2, .int .i64 a1_3] 36 (0, 0)) (by (with_reducible repeat (first | refine blk_drewN ?_ _ | refine blk_drew ?_ | refine blk_alloc ?_ _)); exact BK385.out) hb)
        have n2_ := Aside0.mk (blk_below (g := gb397) (o := .cells #[.int .i64 t394, .int .i64 t395, .int .i64 t396] 54 (0, 0)) (by (with_reducible repeat (first | refine blk_drewN ?_ _ | refine blk_drew ?_ | refine blk_alloc ?_ _)); exact BK397.out) hb)
        have n3_ := Aside0.mk (below_step (by repeat (first | (with_reducible first | exact HB.out | apply below_alloc | apply pw_below_drewN | apply below_drew1 | refine below_set ?_ GE384.out | refine below_set ?_ GE385.out | refine below_set ?_ GE397.out) | exact HB.out)) hb)
        have n4_ := Aside0.mk (hbox)
        have n5_ := Aside0.mk ((by rw [hg]; exact (below_size (by repeat (first | (with_reducible first | exact HB.out | apply below_alloc | apply pw_below_drewN | apply below_drew1 | refine below_set ?_ GE384.out | refine below_set ?_ GE385.out | refine below_set ?_ GE397.out) | exact HB.out))) : w.heap.size ≤ gb409))
        have n6_ := Aside0.mk ((by rw [hg]; exact (below_size (by repeat (first | (with_reducible first | exact HB.out | apply below_alloc | apply pw_below_drewN | apply below_drew1 | refine below_set ?_ GE384.out | refine below_set ?_ GE385.out | refine below_set ?_ GE397.out) | exact HB.out))) : w.heap.size ≤ gb409))
        have n7_ := Aside0.mk ((by rw [hg]; exact Nat.ne_of_lt (blk_lt (g := gb384) (o := .cells #[.int .i64 a0_0, .int .i64 a0_1, .int .i64 a0_2, .int .i64 a0_3] 36 (0, 0)) (by (with_reducible repeat (first | refine blk_drewN ?_ _ | refine blk_drew ?_ | refine blk_alloc ?_ _)); exact BK384.out)) : gb384 ≠ gb409))
        have n8_ := Aside0.mk ((by rw [hg]; exact Nat.ne_of_gt (blk_lt (g := gb384) (o := .cells #[.int .i64 a0_0, .int .i64 a0_1, .int .i64 a0_2, .int .i64 a0_3] 36 (0, 0)) (by (with_reducible repeat (first | refine blk_drewN ?_ _ | refine blk_drew ?_ | refine blk_alloc ?_ _)); exact BK384.out)) : gb409 ≠ gb384))
        have n9_ := Aside0.mk ((by rw [hg]; exact Nat.ne_of_lt (blk_lt (g := gb385) (o := .cells #[.int .i64 a1_0, .int .i64 a1_1, .int .i64 a1_2, .int .i64 a1_3] 36 (0, 0)) (by (with_reducible repeat (first | refine blk_drewN ?_ _ | refine blk_drew ?_ | refine blk_alloc ?_ _)); exact BK385.out)) : gb385 ≠ gb409))
        have n10_ := Aside0.mk ((by rw [hg]; exact Nat.ne_of_gt (blk_lt (g := gb385) (o := .cells #[.int .i64 a1_0, .int .i64 a1_1, .int .i64 a1_2, .int .i64 a1_3] 36 (0, 0)) (by (with_reducible repeat (first | refine blk_drewN ?_ _ | refine blk_drew ?_ | refine blk_alloc ?_ _)); exact BK385.out)) : gb409 ≠ gb385))
        have n11_ := Aside0.mk ((by rw [hg]; exact Nat.ne_of_lt (blk_lt (g := gb397) (o := .cells #[.int .i64 t394, .int .i64 t395, .int .i64 t396] 54 (0, 0)) (by (with_reducible repeat (first | refine blk_drewN ?_ _ | refine blk_drew ?_ | refine blk_alloc ?_ _)); exact BK397.out)) : gb397 ≠ gb409))
        have n12_ := Aside0.mk ((by rw [hg]; exact Nat.ne_of_gt (blk_lt (g := gb397) (o := .cells #[.int .i64 t394, .int .i64 t395, .int .i64 t396] 54 (0, 0)) (by (with_reducible repeat (first | refine blk_drewN ?_ _ | refine blk_drew ?_ | refine blk_alloc ?_ _)); exact BK397.out)) : gb409 ≠ gb397))
        clear BK384
        clear BK385
        clear BK397
        clear HB
        have BK384 := n0_
        have BK385 := n1_
        have BK397 := n2_
        have HB := n3_
        have BK409 := n4_
        have GW409 := n5_
        have GE409 := n6_
        have NB384_409 := n7_
        have NB409_384 := n8_
        have NB385_409 := n9_
        have NB409_385 := n10_
        have NB397_409 := n11_
        have NB409_397 := n12_
        clear n0_ n1_ n2_ n3_ n4_ n5_ n6_ n7_ n8_ n9_ n10_ n11_ n12_
        clear hb hbox hg
        refine hK.out _ _ ⟨gb409, (.pointer (some ⟨gb409, 0, none⟩)), (by rw [ha.out]; exact putSel_upk 5 hb_ rfl rfl rfl), (by (with_reducible repeat (first | refine blk_drewN ?_ _ | refine blk_drew ?_ | refine blk_alloc ?_ _)); exact BK384.out), (by (with_reducible repeat (first | refine blk_drewN ?_ _ | refine blk_drew ?_ | refine blk_alloc ?_ _)); exact BK385.out), (by (with_reducible repeat (first | refine blk_drewN ?_ _ | refine blk_drew ?_ | refine blk_alloc ?_ _)); exact BK397.out), (by repeat (first | (with_reducible first | exact HB.out | apply below_alloc | apply pw_below_drewN | apply below_drew1 | refine below_set ?_ GE384.out | refine below_set ?_ GE385.out | refine below_set ?_ GE397.out | refine below_set ?_ GE409.out) | exact HB.out)), fun _ _ => (by (with_reducible repeat (first | refine blk_drewN ?_ _ | refine blk_drew ?_ | refine blk_alloc ?_ _)); exact BK409.out), fun _ => GW409.out, fun _ => GE409.out, fun _ => NB384_409.out, fun _ => NB409_384.out, fun _ => NB385_409.out, fun _ => NB409_385.out, fun _ => NB397_409.out, fun _ => NB409_397.out, fun h0_ => absurd ((hoff 6 (by kernel_rfl)).symm.trans h0_) (by decide), fun _ => rfl⟩
      refine steps_cons ?_ ?_
      · rintro b a w' ⟨gb409, m5_, ha, Q_BK384, Q_BK385, Q_BK397, Q_HB, Q_BK409, Q_GW409, Q_GE409, Q_NB384_409, Q_NB409_384, Q_NB385_409, Q_NB409_385, Q_NB397_409, Q_NB409_397, Q_BK409_e6, Q_X5_⟩ hb_ hon hoff
        refine ⟨_, rfl, fun K hK => ?_⟩
        have e6 : a.tmps[6]? = some (m5_) := by rw [ha]; exact putSel_on (e := (5, 6, m5_)) 5 rfl rfl (hon 5 (by kernel_rfl)) rfl
        rw [Q_X5_ (hon 5 (by kernel_rfl))] at e6
        have e16 : a.tmps[16]? = some (.agg #[.int .i64 t406, .int .i64 t407, .int .i64 t408]) := by rw [ha]; exact putSel_on (e := (4, 16, .agg #[.int .i64 t406, .int .i64 t407, .int .i64 t408])) 4 rfl rfl (hon 4 (by kernel_rfl)) rfl
        replace ha := Aside0.mk ha
        have BK384 := Aside0.mk Q_BK384
        have BK385 := Aside0.mk Q_BK385
        have BK397 := Aside0.mk Q_BK397
        have HB := Aside0.mk Q_HB
        have BK409 := Aside0.mk (Q_BK409 (hon 5 (by kernel_rfl)) hb_)
        have GW409 := Aside0.mk (Q_GW409 (hon 5 (by kernel_rfl)))
        have GE409 := Aside0.mk (Q_GE409 (hon 5 (by kernel_rfl)))
        have NB384_409 := Aside0.mk (Q_NB384_409 (hon 5 (by kernel_rfl)))
        have NB409_384 := Aside0.mk (Q_NB409_384 (hon 5 (by kernel_rfl)))
        have NB385_409 := Aside0.mk (Q_NB385_409 (hon 5 (by kernel_rfl)))
        have NB409_385 := Aside0.mk (Q_NB409_385 (hon 5 (by kernel_rfl)))
        have NB397_409 := Aside0.mk (Q_NB397_409 (hon 5 (by kernel_rfl)))
        have NB409_397 := Aside0.mk (Q_NB409_397 (hon 5 (by kernel_rfl)))
        have hs56 : w'.cell? ⟨gb409, 0, none⟩ = some (.int .i64 0) := (blk_cell BK409.out 0).trans rfl
        have hfs56 := blk_frozen BK409.out 0
        have hns56_0 := NB384_409.out
        have hns56_1 := NB385_409.out
        have hns56_2 := NB397_409.out
        have hms56_0 := NB409_384.out
        have hms56_1 := NB409_385.out
        have hms56_2 := NB409_397.out
        have hs57 : w'.cell? ⟨gb409, 1, none⟩ = some (.int .i64 0) := (blk_cell BK409.out 1).trans rfl
        have hfs57 := blk_frozen BK409.out 1
        have hns57_0 := NB384_409.out
        have hns57_1 := NB385_409.out
        have hns57_2 := NB397_409.out
        have hms57_0 := NB409_384.out
        have hms57_1 := NB409_385.out
        have hms57_2 := NB409_397.out
        have hs58 : w'.cell? ⟨gb409, 2, none⟩ = some (.int .i64 0) := (blk_cell BK409.out 2).trans rfl
        have hfs58 := blk_frozen BK409.out 2
        have hns58_0 := NB384_409.out
        have hns58_1 := NB385_409.out
        have hns58_2 := NB397_409.out
        have hms58_0 := NB409_384.out
        have hms58_1 := NB409_385.out
        have hms58_2 := NB409_397.out
        refine skip_ (w1 := ?_) (by rfl) rfl ?_ ?_
        rotate_left
        · go_simp
          rfl
        refine hK.out _ _ ⟨gb409, m5_, (by rw [ha.out]; exact putSel_none (v := undef) rfl), (by (with_reducible repeat (first | refine blk_drewN ?_ _ | refine blk_drew ?_ | refine blk_alloc ?_ _)); refine blk_far ?_ NB384_409.out _; (with_reducible repeat (first | refine blk_drewN ?_ _ | refine blk_drew ?_ | refine blk_alloc ?_ _)); refine blk_far ?_ NB384_409.out _; (with_reducible repeat (first | refine blk_drewN ?_ _ | refine blk_drew ?_ | refine blk_alloc ?_ _)); refine blk_far ?_ NB384_409.out _; (with_reducible repeat (first | refine blk_drewN ?_ _ | refine blk_drew ?_ | refine blk_alloc ?_ _)); exact BK384.out), (by (with_reducible repeat (first | refine blk_drewN ?_ _ | refine blk_drew ?_ | refine blk_alloc ?_ _)); refine blk_far ?_ NB385_409.out _; (with_reducible repeat (first | refine blk_drewN ?_ _ | refine blk_drew ?_ | refine blk_alloc ?_ _)); refine blk_far ?_ NB385_409.out _; (with_reducible repeat (first | refine blk_drewN ?_ _ | refine blk_drew ?_ | refine blk_alloc ?_ _)); refine blk_far ?_ NB385_409.out _; (with_reducible repeat (first | refine blk_drewN ?_ _ | refine blk_drew ?_ | refine blk_alloc ?_ _)); exact BK385.out), (by (with_reducible repeat (first | refine blk_drewN ?_ _ | refine blk_drew ?_ | refine blk_alloc ?_ _)); refine blk_far ?_ NB397_409.out _; (with_reducible repeat (first | refine blk_drewN ?_ _ | refine blk_drew ?_ | refine blk_alloc ?_ _)); refine blk_far ?_ NB397_409.out _; (with_reducible repeat (first | refine blk_drewN ?_ _ | refine blk_drew ?_ | refine blk_alloc ?_ _)); refine blk_far ?_ NB397_409.out _; (with_reducible repeat (first | refine blk_drewN ?_ _ | refine blk_drew ?_ | refine blk_alloc ?_ _)); exact BK397.out), (by repeat (first | (with_reducible first | exact HB.out | apply below_alloc | apply pw_below_drewN | apply below_drew1 | refine below_set ?_ GE384.out | refine below_set ?_ GE385.out | refine below_set ?_ GE397.out | refine below_set ?_ GE409.out) | exact HB.out)), fun _ h1_ => absurd ((up_self b 6).symm.trans h1_) (by decide), fun _ => GW409.out, fun _ => GE409.out, fun _ => NB384_409.out, fun _ => NB409_384.out, fun _ => NB385_409.out, fun _ => NB409_385.out, fun _ => NB397_409.out, fun _ => NB409_397.out, fun _ => (by (with_reducible repeat (first | refine blk_drewN ?_ _ | refine blk_drew ?_ | refine blk_alloc ?_ _)); refine blk_put (cs := #[.int .i64 t406, .int .i64 t407, .int .i64 0]) ?_ 2 _ rfl; (with_reducible repeat (first | refine blk_drewN ?_ _ | refine blk_drew ?_ | refine blk_alloc ?_ _)); refine blk_put (cs := #[.int .i64 t406, .int .i64 0, .int .i64 0]) ?_ 1 _ rfl; (with_reducible repeat (first | refine blk_drewN ?_ _ | refine blk_drew ?_ | refine blk_alloc ?_ _)); refine blk_put (cs := #[.int .i64 0, .int .i64 0, .int .i64 0]) ?_ 0 _ rfl; (with_reducible repeat (first | refine blk_drewN ?_ _ | refine blk_drew ?_ | refine blk_alloc ?_ _)); exact BK409.out), Q_X5_⟩
      exact steps_nil
    rintro b a w58 hall ⟨gb409, m5_, ha, Q_BK384, Q_BK385, Q_BK397, Q_HB, Q_BK409, Q_GW409, Q_GE409, Q_NB384_409, Q_NB409_384, Q_NB385_409, Q_NB409_385, Q_NB397_409, Q_NB409_397, Q_BK409_e6, Q_X5_⟩
    clear BK384 BK385 BK397 HB
    have hb0_ := hall 0 (by kernel_rfl)
    have hb1_ := hall 1 (by kernel_rfl)
    have hb2_ := hall 2 (by kernel_rfl)
    have hb3_ := hall 3 (by kernel_rfl)
    have hb4_ := hall 4 (by kernel_rfl)
    have hb5_ := hall 5 (by kernel_rfl)
    have hb6_ := hall 6 (by kernel_rfl)
    subst ha
    obtain rfl := Q_X5_ hb5_
    simp only [putSel, hb0_, hb1_, hb2_, hb3_, hb4_, hb5_, hb6_, if_true, Act.put, List.setIfInBounds_toArray, List.set_cons_zero, List.set_cons_succ]
    have BK384 := Aside0.mk Q_BK384
    clear Q_BK384
    have BK385 := Aside0.mk Q_BK385
    clear Q_BK385
    have BK397 := Aside0.mk Q_BK397
    clear Q_BK397
    have HB := Aside0.mk Q_HB
    clear Q_HB
    clear Q_BK409
    have GW409 := Aside0.mk (Q_GW409 hb5_)
    clear Q_GW409
    have GE409 := Aside0.mk (Q_GE409 hb5_)
    clear Q_GE409
    have NB384_409 := Aside0.mk (Q_NB384_409 hb5_)
    clear Q_NB384_409
    have NB409_384 := Aside0.mk (Q_NB409_384 hb5_)
    clear Q_NB409_384
    have NB385_409 := Aside0.mk (Q_NB385_409 hb5_)
    clear Q_NB385_409
    have NB409_385 := Aside0.mk (Q_NB409_385 hb5_)
    clear Q_NB409_385
    have NB397_409 := Aside0.mk (Q_NB397_409 hb5_)
    clear Q_NB397_409
    have NB409_397 := Aside0.mk (Q_NB409_397 hb5_)
    clear Q_NB409_397
    have BK409 := Aside0.mk (Q_BK409_e6 hb6_)
    clear Q_BK409_e6
    clear hall hb0_ hb1_ hb2_ hb3_ hb4_ hb5_ hb6_
    have hnb59 := NB409_384.out
    have hnc59 := NB384_409.out
    have hnb60 := NB409_385.out
    have hnc60 := NB385_409.out
    have hnb61 := NB409_397.out
    have hnc61 := NB397_409.out
    have hcz62_0 : w58.cell? ⟨gb409, 0, none⟩ = some (.int .i64 t406) := (blk_cell BK409.out 0).trans rfl
    have hcz62_1 : w58.cell? ⟨gb409, 1, none⟩ = some (.int .i64 t407) := (blk_cell BK409.out 1).trans rfl
    have hcz62_2 : w58.cell? ⟨gb409, 2, none⟩ = some (.int .i64 t408) := (blk_cell BK409.out 2).trans rfl
    have hfz62_0 := blk_frozen BK409.out 0
    have hfz62_1 := blk_frozen BK409.out 1
    have hfz62_2 := blk_frozen BK409.out 2
    have hnb63 := NB397_384.out
    have hnc63 := NB384_397.out
    have hnb64 := NB397_385.out
    have hnc64 := NB385_397.out
    have hcz65_0 : w58.cell? ⟨gb397, 0, none⟩ = some (.int .i64 t394) := (blk_cell BK397.out 0).trans rfl
    have hcz65_1 : w58.cell? ⟨gb397, 1, none⟩ = some (.int .i64 t395) := (blk_cell BK397.out 1).trans rfl
    have hcz65_2 : w58.cell? ⟨gb397, 2, none⟩ = some (.int .i64 t396) := (blk_cell BK397.out 2).trans rfl
    have hfz65_0 := blk_frozen BK397.out 0
    have hfz65_1 := blk_frozen BK397.out 1
    have hfz65_2 := blk_frozen BK397.out 2
    try go_wp2_with (first | ((with_reducible refine gate_callee (f := 50) rfl ?_); refine goesL_ (some 19) rfl rfl Try.func50 (by kernel_rfl) rfl #[.agg #[.int .i64 t406, .int .i64 t407, .int .i64 t408], .agg #[.int .i64 t394, .int .i64 t395, .int .i64 t396]] rfl (by (try simp only [List.map_toArray, List.map_cons, List.map_nil]); first | done | rfl | (simp only [List.length_drop, List.length_take]; rfl)) ?_; (with_reducible refine (laws_eqIntA3.calls k t406 t407 t408 t394 t395 t396 false _ A9.out).mono ?_); rintro e w66 ⟨rfl, hb⟩; refine ⟨_, rfl, ?_⟩; have n0_ := Aside0.mk (blk_below (g := gb384) (o := .cells #[.int .i64 a0_0, .int .i64 a0_1, .int .i64 a0_2, .int .i64 a0_3] 36 (0, 0)) (by (with_reducible repeat (first | refine blk_drewN ?_ _ | refine blk_drew ?_ | refine blk_alloc ?_ _)); exact BK384.out) hb); have n1_ := Aside0.mk (blk_below (g := gb385) (o := .cells #[.int .i64 a1_0, .int .i64 a1_1, .int .i64 a1_2, .int .i64 a1_3] 36 (0, 0)) (by (with_reducible repeat (first | refine blk_drewN ?_ _ | refine blk_drew ?_ | refine blk_alloc ?_ _)); exact BK385.out) hb); have n2_ := Aside0.mk (blk_below (g := gb397) (o := .cells #[.int .i64 t394, .int .i64 t395, .int .i64 t396] 54 (0, 0)) (by (with_reducible repeat (first | refine blk_drewN ?_ _ | refine blk_drew ?_ | refine blk_alloc ?_ _)); exact BK397.out) hb); have n3_ := Aside0.mk (blk_below (g := gb409) (o := .cells #[.int .i64 t406, .int .i64 t407, .int .i64 t408] 54 (0, 0)) (by (with_reducible repeat (first | refine blk_drewN ?_ _ | refine blk_drew ?_ | refine blk_alloc ?_ _)); exact BK409.out) hb); have n4_ := Aside0.mk (below_step (by repeat (first | (with_reducible first | exact HB.out | apply below_alloc | apply pw_below_drewN | apply below_drew1 | refine below_set ?_ GE384.out | refine below_set ?_ GE385.out | refine below_set ?_ GE397.out | refine below_set ?_ GE409.out) | exact HB.out)) hb); clear BK384; clear BK385; clear BK397; clear BK409; clear HB; have BK384 := n0_; have BK385 := n1_; have BK397 := n2_; have BK409 := n3_; have HB := n4_; clear n0_ n1_ n2_ n3_ n4_; (try clear hb); (try clear hb2); (try clear hk); (try clear hi)))
    go_ret
    exact ⟨by first | rfl | (simp [errW_none, errW_some] <;> rfl) | (simp [*, errW_none, errW_some] <;> rfl), by repeat (first | (with_reducible first | exact HB.out | apply below_alloc | apply pw_below_drewN | apply below_drew1 | refine below_set ?_ GE384.out | refine below_set ?_ GE385.out | refine below_set ?_ GE397.out | refine below_set ?_ GE409.out) | exact HB.out)⟩

end Go.Proofs.Ytmcjkdbegkdhoaa.Print
