-- Printed by a program of the session (mkprinter.py, over the kit's print); Lean checks it.
import Derived.Test.YtndedincanmaeaaCp
import Derived.Test.YtndedincanmaeaaPrint0
import Derived.Test.YtndedincanmaeaaPrint1
import Derived.Test.YtndedincanmaeaaPrint9
import Derived.Test.YtndedincanmaeaaPrint10
namespace Go.Proofs.Ytndedincanmaeaa.Print
open Go.RowKit Go.Proofs.YtndedincanmaeaaW.PrintWords Go.Proofs.YtndedincanmaeaaW.PrintLast Go.Proofs.YtndedincanmaeaaW.PrintMore Go.Proofs.Ytndedincanmaeaa.Cp
set_option linter.unusedVariables false
set_option linter.unusedSimpArgs false

/-! ### laws_FnExactShifted: function 6 -/
def laws_FnExactShifted.j0 : Nat → Bool → Option (Bool)
 | 0, _ => none
 | k + 1, x33 => if x33 = true then (some false) else (some true)
def laws_FnExactShifted.f (k : Nat) (a0_0 : Int) (a0_1 : Int) (a0_2 : Int) (a0_3 : Int) (a1_0 : Int) (a1_1 : Int) (a1_2 : Int) : Option (Bool) := (laws_toPlane.f a0_0 a0_1 a0_2 a0_3).bind fun bt363 => ((laws_toPt.f a1_0 a1_1 a1_2).bind fun bt367 => ((spec_Shifted.f k bt363.1 bt363.2.1 bt363.2.2.1 bt363.2.2.2 bt367.1 bt367.2.1 bt367.2.2).bind fun bt370 => ((laws_toPlane.f a0_0 a0_1 a0_2 a0_3).bind fun bt376 => ((laws_toPt.f a1_0 a1_1 a1_2).bind fun bt380 => ((impl_Shifted.f k bt376.1 bt376.2.1 bt376.2.2.1 bt376.2.2.2 bt380.1 bt380.2.1 bt380.2.2).bind fun bt383 => ((laws_eqPlane.f bt383.1 bt383.2.1 bt383.2.2.1 bt383.2.2.2.1 bt370.1 bt370.2.1 bt370.2.2.1 bt370.2.2.2.1).bind fun t389 => (if t389 = true then (laws_FnExactShifted.j0 k (bt383.2.2.2.2 != bt370.2.2.2.2)) else (laws_FnExactShifted.j0 k true))))))))
theorem laws_FnExactShifted.mono_l : ∀ k, (∀ y0, LeO (laws_FnExactShifted.j0 k y0) (laws_FnExactShifted.j0 (k + 1) y0))
 | 0 => fun _ r h => by simp [laws_FnExactShifted.j0] at h
 | k + 1 => by
  have ih0 := laws_FnExactShifted.mono_l k
  intro y0
  unfold laws_FnExactShifted.j0
  repeat' first
  | (with_reducible exact ih0 _)
  | (with_reducible exact impl_Shifted.mono _ _ _ _ _ _ _ _)
  | (with_reducible exact spec_Shifted.mono _ _ _ _ _ _ _ _)
  | (with_reducible exact LeO.refl _)
  | (with_reducible exact LeO.none _)
  | (with_reducible refine LeO.ite ?_ ?_)
  | (with_reducible refine LeO.bind ?_ (fun _ => ?_))
  | exact ih0 _
  | exact impl_Shifted.mono _ _ _ _ _ _ _ _
  | exact spec_Shifted.mono _ _ _ _ _ _ _ _
  | exact LeO.none _
  | refine LeO.ite ?_ ?_
  | refine LeO.bind ?_ (fun _ => ?_)
theorem laws_FnExactShifted.mono : ∀ a0 a1 a2 a3 a4 a5 a6 k, LeO (laws_FnExactShifted.f k a0 a1 a2 a3 a4 a5 a6) (laws_FnExactShifted.f (k + 1) a0 a1 a2 a3 a4 a5 a6) := by
 intro a0 a1 a2 a3 a4 a5 a6 k
 have ih0 := laws_FnExactShifted.mono_l k
 unfold laws_FnExactShifted.f
 repeat' first
   | (with_reducible exact ih0 _)
   | (with_reducible exact impl_Shifted.mono _ _ _ _ _ _ _ _)
   | (with_reducible exact spec_Shifted.mono _ _ _ _ _ _ _ _)
   | (with_reducible exact LeO.refl _)
   | (with_reducible exact LeO.none _)
   | (with_reducible refine LeO.ite ?_ ?_)
   | (with_reducible refine LeO.bind ?_ (fun _ => ?_))
   | exact ih0 _
   | exact impl_Shifted.mono _ _ _ _ _ _ _ _
   | exact spec_Shifted.mono _ _ _ _ _ _ _ _
   | exact LeO.none _
   | refine LeO.ite ?_ ?_
   | refine LeO.bind ?_ (fun _ => ?_)
def laws_FnExactShifted.T1 : Bool × List (List Nat × List Nat) := (true, [([], []), ([0], [0]), ([], []), ([2, 1], [2]), ([1, 3, 3], [1, 3]), ([4], [4]), ([5], [5]), ([5], [5]), ([], []), ([8, 6, 4, 0, 1, 2, 3, 4, 5, 6, 8], [6, 8]), ([7, 9, 0, 1, 2, 3, 4, 5, 6, 7, 8, 9], [7])])
def laws_FnExactShifted.B1 : List Nat := [0, 1, 0, 7, 15, 31, 63, 63, 0, 383, 1023]
theorem laws_FnExactShifted.tab1 : rtab .any (opsOf Try.f6 1) = laws_FnExactShifted.T1 := by kernel_rfl
theorem laws_FnExactShifted.bits1 : waitsOk laws_FnExactShifted.T1.2 laws_FnExactShifted.B1 = true := by kernel_rfl
def laws_FnExactShifted.T2 : Bool × List (List Nat × List Nat) := (true, [([], []), ([0], [0]), ([], []), ([2, 1], [2]), ([1, 3, 3], [1, 3]), ([4], [4]), ([5], [5]), ([5], [5]), ([], []), ([8, 6, 4, 0, 1, 2, 3, 4, 5, 6, 8], [6, 8]), ([7, 9, 0, 1, 2, 3, 4, 5, 6, 7, 8, 9], [7])])
def laws_FnExactShifted.B2 : List Nat := [0, 1, 0, 7, 15, 31, 63, 63, 0, 383, 1023]
theorem laws_FnExactShifted.tab2 : rtab .any (opsOf Try.f6 2) = laws_FnExactShifted.T2 := by kernel_rfl
theorem laws_FnExactShifted.bits2 : waitsOk laws_FnExactShifted.T2.2 laws_FnExactShifted.B2 = true := by kernel_rfl
set_option maxHeartbeats 8000000 in
set_option maxRecDepth 100000 in
theorem laws_FnExactShifted.calls (k : Nat) (a0_0 : Int) (a0_1 : Int) (a0_2 : Int) (a0_3 : Int) (a1_0 : Int) (a1_1 : Int) (a1_2 : Int) (r : Bool) (w : World) (h : laws_FnExactShifted.f k a0_0 a0_1 a0_2 a0_3 a1_0 a1_1 a1_2 = some r) :
  Calls Try.prog 6 #[.agg #[.int .i64 a0_0, .int .i64 a0_1, .int .i64 a0_2, .int .i64 a0_3], .agg #[.int .i64 a1_0, .int .i64 a1_1, .int .i64 a1_2]] w fun e w' => e = .returned (.bool r) ∧ Below w.heap.size w w' := by
 have hu31 := Try.underlying31
 have hu43 := Try.underlying43
 have hu23 := Try.underlying23
 have HB := Aside0.mk (Below.refl w.heap.size w)
 have H : ((laws_toPlane.f a0_0 a0_1 a0_2 a0_3).bind fun bt363 => ((laws_toPt.f a1_0 a1_1 a1_2).bind fun bt367 => ((spec_Shifted.f k bt363.1 bt363.2.1 bt363.2.2.1 bt363.2.2.2 bt367.1 bt367.2.1 bt367.2.2).bind fun bt370 => ((laws_toPlane.f a0_0 a0_1 a0_2 a0_3).bind fun bt376 => ((laws_toPt.f a1_0 a1_1 a1_2).bind fun bt380 => ((impl_Shifted.f k bt376.1 bt376.2.1 bt376.2.2.1 bt376.2.2.2 bt380.1 bt380.2.1 bt380.2.2).bind fun bt383 => ((laws_eqPlane.f bt383.1 bt383.2.1 bt383.2.2.1 bt383.2.2.2.1 bt370.1 bt370.2.1 bt370.2.2.1 bt370.2.2.2.1).bind fun t389 => (if t389 = true then (laws_FnExactShifted.j0 k (bt383.2.2.2.2 != bt370.2.2.2.2)) else (laws_FnExactShifted.j0 k true))))))))) = some r := h
 clear h
 obtain ⟨⟨t363, t364, t365, t366⟩, A3, H⟩ := bi H
 dsimp only at H
 obtain ⟨⟨t367, t368, t369⟩, A4, H⟩ := bi H
 dsimp only at H
 obtain ⟨⟨t370, t371, t372, t373, t374⟩, A5, H⟩ := bi H
 dsimp only at H
 obtain ⟨⟨t376, t377, t378, t379⟩, A6, H⟩ := bi H
 dsimp only at H
 obtain ⟨⟨t380, t381, t382⟩, A7, H⟩ := bi H
 dsimp only at H
 obtain ⟨⟨t383, t384, t385, t386, t387⟩, A8, H⟩ := bi H
 dsimp only at H
 have HC9 := Aside0.mk H
 clear H
 go_enter Try.func6, Try.ntmps6
 try go_wp2_with (first | ((with_reducible refine gate_dst (N := 2) rfl ?_); refine box_event ?hg (N := 2) ?hd (cs := #[.int .i64 a0_0, .int .i64 a0_1, .int .i64 a0_2, .int .i64 a0_3]) (t := 31) ?hr ?_; (case hd => rfl); (case hg => rfl); (case hr => first | (go_simp; done) | (go_simp; rfl)); intro g1 hg w10 hbox hb; have bK1 := Aside0.mk (hbox); have bW1 := gx hg HB; have bE1 := gx hg HB; replace HB := bt HB hb; clear hb hbox hg) | ((with_reducible refine gate_dst (N := 3) rfl ?_); refine box_event ?hg (N := 3) ?hd (cs := #[.int .i64 a1_0, .int .i64 a1_1, .int .i64 a1_2]) (t := 43) ?hr ?_; (case hd => rfl); (case hg => rfl); (case hr => first | (go_simp; done) | (go_simp; rfl)); intro g2 hg w11 hbox hb; have n0_ := kb bK1 hb; have n1_ := bt HB hb; have n2_ := Aside0.mk (hbox); have n3_ := gx hg HB; have n4_ := gx hg HB; have n5_ := nl hg bK1; have n6_ := nr hg bK1; clear bK1; clear HB; have bK1 := n0_; have HB := n1_; have bK2 := n2_; have bW2 := n3_; have bE2 := n4_; have bN1_2 := n5_; have bN2_1 := n6_; clear n0_ n1_ n2_ n3_ n4_ n5_ n6_; clear hb hbox hg))
 replace bK1 := Aside0.mk (blk_drew bK1.out)
 replace bK2 := Aside0.mk (blk_drew bK2.out)
 replace HB := Aside0.mk (below_drew1 HB.out)
 refine start_ (n := 11) (S := fun w' => True) (ds := []) (bl 11 0) (by kernel_rfl) rfl rfl trivial (fun hHeld => ?_); refine with_tabW laws_FnExactShifted.tab1 laws_FnExactShifted.bits1 (fun HT_ HW_ => ?_)
 generalize w11.drew = w12 at bK1 bK2 HB hHeld ⊢
 refine inv_at [0, 1, 2, 3, 4, 5, 6, 7, 8, 9, 10] (fun a0_ b a w' => ∃ (g3 : Nat) (m8_ : Value), a = putSel a0_ b [(0, 10, .agg #[.int .i64 a0_0, .int .i64 a0_1, .int .i64 a0_2, .int .i64 a0_3]), (1, 11, .agg #[.int .i64 t363, .int .i64 t364, .int .i64 t365, .int .i64 t366]), (2, 12, .agg #[.int .i64 a1_0, .int .i64 a1_1, .int .i64 a1_2]), (3, 13, .agg #[.int .i64 t367, .int .i64 t368, .int .i64 t369]), (4, 14, .tuple #[.agg #[.int .i64 t370, .int .i64 t371, .int .i64 t372, .int .i64 t373], .int .i64 t374]), (5, 9, .tuple #[.agg #[.int .i64 t370, .int .i64 t371, .int .i64 t372, .int .i64 t373], .int .i64 t374]), (6, 15, .agg #[.int .i64 t370, .int .i64 t371, .int .i64 t372, .int .i64 t373]), (7, 16, .int .i64 t374), (8, 5, m8_), (10, 6, .int .i64 t374)] ∧ (w'.heap[g1]? = some (.cells #[.int .i64 a0_0, .int .i64 a0_1, .int .i64 a0_2, .int .i64 a0_3] 31 (0, 0))) ∧ (w'.heap[g2]? = some (.cells #[.int .i64 a1_0, .int .i64 a1_1, .int .i64 a1_2] 43 (0, 0))) ∧ (Below w.heap.size w w') ∧ (b 8 = true → b 9 = false → w'.heap[g3]? = some (.cells #[.int .i64 0, .int .i64 0, .int .i64 0, .int .i64 0] 23 (0, 0))) ∧ (b 8 = true → w.heap.size ≤ g3) ∧ (b 8 = true → w.heap.size ≤ g3) ∧ (b 8 = true → g1 ≠ g3) ∧ (b 8 = true → g3 ≠ g1) ∧ (b 8 = true → g2 ≠ g3) ∧ (b 8 = true → g3 ≠ g2) ∧ (b 9 = true → w'.heap[g3]? = some (.cells #[.int .i64 t370, .int .i64 t371, .int .i64 t372, .int .i64 t373] 23 (0, 0))) ∧ (b 8 = true → (m8_ : Value) = .pointer (some ⟨g3, 0, none⟩))) HT_.out HW_.out (by kernel_rfl) (by kernel_rfl) ?_ ?_ ?_
 ·exact ⟨0, .bool false, by simp only [putSel, Bool.false_eq_true, if_false], bK1.out, bK2.out, HB.out, fun h_ => absurd h_ (by decide), fun h_ => absurd h_ (by decide), fun h_ => absurd h_ (by decide), fun h_ => absurd h_ (by decide), fun h_ => absurd h_ (by decide), fun h_ => absurd h_ (by decide), fun h_ => absurd h_ (by decide), fun h_ => absurd h_ (by decide), fun h_ => absurd h_ (by decide)⟩
 ·skip
  clear bK1 bK2 HB
  refine steps_cons ?_ ?_
  ·rintro b a w' ⟨g3, m8_, ha, qK1, qK2, Q_HB, qK3, qW3, qE3, qN1_3, qN3_1, qN2_3, qN3_2, qK3_e9, Q_X8_⟩ hb_ hon hoff
   refine ⟨_, rfl, fun K hK => ?_⟩
   have e2 : a.tmps[2]? = some (.pointer (some ⟨g1, 0, none⟩)) := by rw [ha]; exact (putSel_off rfl).trans rfl
   replace ha := Aside0.mk ha
   have bK1 := Aside0.mk qK1
   have bK2 := Aside0.mk qK2
   have HB := Aside0.mk Q_HB
   have hc0_ : w'.cell? ⟨g1, 0, none⟩ = some (.int .i64 a0_0) := (blk_cell bK1.out 0).trans rfl
   have hc1_ : w'.cell? ⟨g1, 1, none⟩ = some (.int .i64 a0_1) := (blk_cell bK1.out 1).trans rfl
   have hc2_ : w'.cell? ⟨g1, 2, none⟩ = some (.int .i64 a0_2) := (blk_cell bK1.out 2).trans rfl
   have hc3_ : w'.cell? ⟨g1, 3, none⟩ = some (.int .i64 a0_3) := (blk_cell bK1.out 3).trans rfl
   refine value_ (w1 := w') (v := .agg #[.int .i64 a0_0, .int .i64 a0_1, .int .i64 a0_2, .int .i64 a0_3]) (by rfl) rfl ?_ ?_
   ·go_simp
    (try simp only [i64_w])
    try rfl
   refine hK.out _ _ ⟨g3, m8_, (by rw [ha.out]; exact putSel_upk 0 hb_ rfl rfl rfl), qK1, qK2, Q_HB, qK3, qW3, qE3, qN1_3, qN3_1, qN2_3, qN3_2, fun h0_ => absurd ((hoff 9 (by kernel_rfl)).symm.trans h0_) (by decide), Q_X8_⟩
  refine steps_cons ?_ ?_
  ·rintro b a w' ⟨g3, m8_, ha, qK1, qK2, Q_HB, qK3, qW3, qE3, qN1_3, qN3_1, qN2_3, qN3_2, qK3_e9, Q_X8_⟩ hb_ hon hoff
   refine ⟨_, rfl, fun K hK => ?_⟩
   have e10 : a.tmps[10]? = some (.agg #[.int .i64 a0_0, .int .i64 a0_1, .int .i64 a0_2, .int .i64 a0_3]) := by rw [ha]; exact putSel_on (e := (0, 10, .agg #[.int .i64 a0_0, .int .i64 a0_1, .int .i64 a0_2, .int .i64 a0_3])) 0 rfl rfl (hon 0 (by kernel_rfl)) rfl
   replace ha := Aside0.mk ha
   have bK1 := Aside0.mk qK1
   have bK2 := Aside0.mk qK2
   have HB := Aside0.mk Q_HB
   refine goes_ Try.func32 (by kernel_rfl) rfl #[.agg #[.int .i64 a0_0, .int .i64 a0_1, .int .i64 a0_2, .int .i64 a0_3]] (by rfl) rfl rfl (by first | (simp only [List.map_toArray, List.map_cons, List.map_nil, Act.eval, Array.getD_eq_getD_getElem?, Option.getD_some, e10]; done) | (simp only [List.map_toArray, List.map_cons, List.map_nil, Act.eval, Array.getD_eq_getD_getElem?, Option.getD_some, e10]; rfl)) ?_
   with_reducible refine (laws_toPlane.calls a0_0 a0_1 a0_2 a0_3 t363 t364 t365 t366 _ A3.out).mono ?_
   rintro e w13 ⟨rfl, hb⟩
   refine ⟨_, rfl, ?_⟩
   have n0_ := kb bK1 hb
   have n1_ := kb bK2 hb
   have n2_ := bt HB hb
   have zK3 := fun (h0_ : b 8 = true) (h1_ : b 9 = false) => (show w13.heap[g3]? = some (.cells #[.int .i64 0, .int .i64 0, .int .i64 0, .int .i64 0] 23 (0, 0)) from by first | exact (blk_below (g := g3) (o := .cells #[.int .i64 0, .int .i64 0, .int .i64 0, .int .i64 0] 23 (0, 0)) (by (with_reducible repeat (first | refine blk_drewN ?_ _ | refine blk_drew ?_ | refine blk_alloc ?_ _)); exact (qK3 h0_ h1_)) hb))
   clear bK1
   clear bK2
   clear HB
   have bK1 := n0_
   have bK2 := n1_
   have HB := n2_
   clear n0_ n1_ n2_
   (try clear hb)
   (try clear hb2)
   (try clear hk)
   (try clear hi)
   refine hK.out _ _ ⟨g3, m8_, (by rw [ha.out]; exact putSel_upk 1 hb_ rfl rfl rfl), (kbx bK1), (kbx bK2), (hbx HB), zK3, qW3, qE3, qN1_3, qN3_1, qN2_3, qN3_2, fun h0_ => absurd ((hoff 9 (by kernel_rfl)).symm.trans h0_) (by decide), Q_X8_⟩
  refine steps_cons ?_ ?_
  ·rintro b a w' ⟨g3, m8_, ha, qK1, qK2, Q_HB, qK3, qW3, qE3, qN1_3, qN3_1, qN2_3, qN3_2, qK3_e9, Q_X8_⟩ hb_ hon hoff
   refine ⟨_, rfl, fun K hK => ?_⟩
   have e3 : a.tmps[3]? = some (.pointer (some ⟨g2, 0, none⟩)) := by rw [ha]; exact (putSel_off rfl).trans rfl
   replace ha := Aside0.mk ha
   have bK1 := Aside0.mk qK1
   have bK2 := Aside0.mk qK2
   have HB := Aside0.mk Q_HB
   have hc0_ : w'.cell? ⟨g2, 0, none⟩ = some (.int .i64 a1_0) := (blk_cell bK2.out 0).trans rfl
   have hc1_ : w'.cell? ⟨g2, 1, none⟩ = some (.int .i64 a1_1) := (blk_cell bK2.out 1).trans rfl
   have hc2_ : w'.cell? ⟨g2, 2, none⟩ = some (.int .i64 a1_2) := (blk_cell bK2.out 2).trans rfl
   refine value_ (w1 := w') (v := .agg #[.int .i64 a1_0, .int .i64 a1_1, .int .i64 a1_2]) (by rfl) rfl ?_ ?_
   ·go_simp
    (try simp only [i64_w])
    try rfl
   refine hK.out _ _ ⟨g3, m8_, (by rw [ha.out]; exact putSel_upk 2 hb_ rfl rfl rfl), qK1, qK2, Q_HB, qK3, qW3, qE3, qN1_3, qN3_1, qN2_3, qN3_2, fun h0_ => absurd ((hoff 9 (by kernel_rfl)).symm.trans h0_) (by decide), Q_X8_⟩
  refine steps_cons ?_ ?_
  ·rintro b a w' ⟨g3, m8_, ha, qK1, qK2, Q_HB, qK3, qW3, qE3, qN1_3, qN3_1, qN2_3, qN3_2, qK3_e9, Q_X8_⟩ hb_ hon hoff
   refine ⟨_, rfl, fun K hK => ?_⟩
   have e12 : a.tmps[12]? = some (.agg #[.int .i64 a1_0, .int .i64 a1_1, .int .i64 a1_2]) := by rw [ha]; exact putSel_on (e := (2, 12, .agg #[.int .i64 a1_0, .int .i64 a1_1, .int .i64 a1_2])) 2 rfl rfl (hon 2 (by kernel_rfl)) rfl
   replace ha := Aside0.mk ha
   have bK1 := Aside0.mk qK1
   have bK2 := Aside0.mk qK2
   have HB := Aside0.mk Q_HB
   refine goes_ Try.func35 (by kernel_rfl) rfl #[.agg #[.int .i64 a1_0, .int .i64 a1_1, .int .i64 a1_2]] (by rfl) rfl rfl (by first | (simp only [List.map_toArray, List.map_cons, List.map_nil, Act.eval, Array.getD_eq_getD_getElem?, Option.getD_some, e12]; done) | (simp only [List.map_toArray, List.map_cons, List.map_nil, Act.eval, Array.getD_eq_getD_getElem?, Option.getD_some, e12]; rfl)) ?_
   with_reducible refine (laws_toPt.calls a1_0 a1_1 a1_2 t367 t368 t369 _ A4.out).mono ?_
   rintro e w15 ⟨rfl, hb⟩
   refine ⟨_, rfl, ?_⟩
   have n0_ := kb bK1 hb
   have n1_ := kb bK2 hb
   have n2_ := bt HB hb
   have zK3 := fun (h0_ : b 8 = true) (h1_ : b 9 = false) => (show w15.heap[g3]? = some (.cells #[.int .i64 0, .int .i64 0, .int .i64 0, .int .i64 0] 23 (0, 0)) from by first | exact (blk_below (g := g3) (o := .cells #[.int .i64 0, .int .i64 0, .int .i64 0, .int .i64 0] 23 (0, 0)) (by (with_reducible repeat (first | refine blk_drewN ?_ _ | refine blk_drew ?_ | refine blk_alloc ?_ _)); exact (qK3 h0_ h1_)) hb))
   clear bK1
   clear bK2
   clear HB
   have bK1 := n0_
   have bK2 := n1_
   have HB := n2_
   clear n0_ n1_ n2_
   (try clear hb)
   (try clear hb2)
   (try clear hk)
   (try clear hi)
   refine hK.out _ _ ⟨g3, m8_, (by rw [ha.out]; exact putSel_upk 3 hb_ rfl rfl rfl), (kbx bK1), (kbx bK2), (hbx HB), zK3, qW3, qE3, qN1_3, qN3_1, qN2_3, qN3_2, fun h0_ => absurd ((hoff 9 (by kernel_rfl)).symm.trans h0_) (by decide), Q_X8_⟩
  refine steps_cons ?_ ?_
  ·rintro b a w' ⟨g3, m8_, ha, qK1, qK2, Q_HB, qK3, qW3, qE3, qN1_3, qN3_1, qN2_3, qN3_2, qK3_e9, Q_X8_⟩ hb_ hon hoff
   refine ⟨_, rfl, fun K hK => ?_⟩
   have e11 : a.tmps[11]? = some (.agg #[.int .i64 t363, .int .i64 t364, .int .i64 t365, .int .i64 t366]) := by rw [ha]; exact putSel_on (e := (1, 11, .agg #[.int .i64 t363, .int .i64 t364, .int .i64 t365, .int .i64 t366])) 1 rfl rfl (hon 1 (by kernel_rfl)) rfl
   have e13 : a.tmps[13]? = some (.agg #[.int .i64 t367, .int .i64 t368, .int .i64 t369]) := by rw [ha]; exact putSel_on (e := (3, 13, .agg #[.int .i64 t367, .int .i64 t368, .int .i64 t369])) 3 rfl rfl (hon 3 (by kernel_rfl)) rfl
   replace ha := Aside0.mk ha
   have bK1 := Aside0.mk qK1
   have bK2 := Aside0.mk qK2
   have HB := Aside0.mk Q_HB
   refine goes_ Try.func34 (by kernel_rfl) rfl #[.agg #[.int .i64 t363, .int .i64 t364, .int .i64 t365, .int .i64 t366], .agg #[.int .i64 t367, .int .i64 t368, .int .i64 t369]] (by rfl) rfl rfl (by first | (simp only [List.map_toArray, List.map_cons, List.map_nil, Act.eval, Array.getD_eq_getD_getElem?, Option.getD_some, e11, e13]; done) | (simp only [List.map_toArray, List.map_cons, List.map_nil, Act.eval, Array.getD_eq_getD_getElem?, Option.getD_some, e11, e13]; rfl)) ?_
   with_reducible refine (spec_Shifted.calls k t363 t364 t365 t366 t367 t368 t369 t370 t371 t372 t373 t374 _ A5.out).mono ?_
   rintro e w16 ⟨rfl, hb⟩
   refine ⟨_, rfl, ?_⟩
   have n0_ := kb bK1 hb
   have n1_ := kb bK2 hb
   have n2_ := bt HB hb
   have zK3 := fun (h0_ : b 8 = true) (h1_ : b 9 = false) => (show w16.heap[g3]? = some (.cells #[.int .i64 0, .int .i64 0, .int .i64 0, .int .i64 0] 23 (0, 0)) from by first | exact (blk_below (g := g3) (o := .cells #[.int .i64 0, .int .i64 0, .int .i64 0, .int .i64 0] 23 (0, 0)) (by (with_reducible repeat (first | refine blk_drewN ?_ _ | refine blk_drew ?_ | refine blk_alloc ?_ _)); exact (qK3 h0_ h1_)) hb))
   clear bK1
   clear bK2
   clear HB
   have bK1 := n0_
   have bK2 := n1_
   have HB := n2_
   clear n0_ n1_ n2_
   (try clear hb)
   (try clear hb2)
   (try clear hk)
   (try clear hi)
   refine hK.out _ _ ⟨g3, m8_, (by rw [ha.out]; exact putSel_upk 4 hb_ rfl rfl rfl), (kbx bK1), (kbx bK2), (hbx HB), zK3, qW3, qE3, qN1_3, qN3_1, qN2_3, qN3_2, fun h0_ => absurd ((hoff 9 (by kernel_rfl)).symm.trans h0_) (by decide), Q_X8_⟩
  refine steps_cons ?_ ?_
  ·rintro b a w' ⟨g3, m8_, ha, qK1, qK2, Q_HB, qK3, qW3, qE3, qN1_3, qN3_1, qN2_3, qN3_2, qK3_e9, Q_X8_⟩ hb_ hon hoff
   refine ⟨_, rfl, fun K hK => ?_⟩
   have e14 : a.tmps[14]? = some (.tuple #[.agg #[.int .i64 t370, .int .i64 t371, .int .i64 t372, .int .i64 t373], .int .i64 t374]) := by rw [ha]; exact putSel_on (e := (4, 14, .tuple #[.agg #[.int .i64 t370, .int .i64 t371, .int .i64 t372, .int .i64 t373], .int .i64 t374])) 4 rfl rfl (hon 4 (by kernel_rfl)) rfl
   replace ha := Aside0.mk ha
   have bK1 := Aside0.mk qK1
   have bK2 := Aside0.mk qK2
   have HB := Aside0.mk Q_HB
   refine value_ (w1 := w') (v := .tuple #[.agg #[.int .i64 t370, .int .i64 t371, .int .i64 t372, .int .i64 t373], .int .i64 t374]) (by rfl) rfl ?_ ?_
   ·go_simp
    (try simp only [i64_w])
    try rfl
   refine hK.out _ _ ⟨g3, m8_, (by rw [ha.out]; exact putSel_upk 5 hb_ rfl rfl rfl), qK1, qK2, Q_HB, qK3, qW3, qE3, qN1_3, qN3_1, qN2_3, qN3_2, fun h0_ => absurd ((hoff 9 (by kernel_rfl)).symm.trans h0_) (by decide), Q_X8_⟩
  refine steps_cons ?_ ?_
  ·rintro b a w' ⟨g3, m8_, ha, qK1, qK2, Q_HB, qK3, qW3, qE3, qN1_3, qN3_1, qN2_3, qN3_2, qK3_e9, Q_X8_⟩ hb_ hon hoff
   refine ⟨_, rfl, fun K hK => ?_⟩
   have e9 : a.tmps[9]? = some (.tuple #[.agg #[.int .i64 t370, .int .i64 t371, .int .i64 t372, .int .i64 t373], .int .i64 t374]) := by rw [ha]; exact putSel_on (e := (5, 9, .tuple #[.agg #[.int .i64 t370, .int .i64 t371, .int .i64 t372, .int .i64 t373], .int .i64 t374])) 5 rfl rfl (hon 5 (by kernel_rfl)) rfl
   replace ha := Aside0.mk ha
   have bK1 := Aside0.mk qK1
   have bK2 := Aside0.mk qK2
   have HB := Aside0.mk Q_HB
   refine value_ (w1 := w') (v := .agg #[.int .i64 t370, .int .i64 t371, .int .i64 t372, .int .i64 t373]) (by rfl) rfl ?_ ?_
   ·go_simp
    (try simp only [i64_w])
    try rfl
   refine hK.out _ _ ⟨g3, m8_, (by rw [ha.out]; exact putSel_upk 6 hb_ rfl rfl rfl), qK1, qK2, Q_HB, qK3, qW3, qE3, qN1_3, qN3_1, qN2_3, qN3_2, fun h0_ => absurd ((hoff 9 (by kernel_rfl)).symm.trans h0_) (by decide), Q_X8_⟩
  refine steps_cons ?_ ?_
  ·rintro b a w' ⟨g3, m8_, ha, qK1, qK2, Q_HB, qK3, qW3, qE3, qN1_3, qN3_1, qN2_3, qN3_2, qK3_e9, Q_X8_⟩ hb_ hon hoff
   refine ⟨_, rfl, fun K hK => ?_⟩
   have e9 : a.tmps[9]? = some (.tuple #[.agg #[.int .i64 t370, .int .i64 t371, .int .i64 t372, .int .i64 t373], .int .i64 t374]) := by rw [ha]; exact putSel_on (e := (5, 9, .tuple #[.agg #[.int .i64 t370, .int .i64 t371, .int .i64 t372, .int .i64 t373], .int .i64 t374])) 5 rfl rfl (hon 5 (by kernel_rfl)) rfl
   replace ha := Aside0.mk ha
   have bK1 := Aside0.mk qK1
   have bK2 := Aside0.mk qK2
   have HB := Aside0.mk Q_HB
   refine value_ (w1 := w') (v := .int .i64 t374) (by rfl) rfl ?_ ?_
   ·go_simp
    (try simp only [i64_w])
    try rfl
   refine hK.out _ _ ⟨g3, m8_, (by rw [ha.out]; exact putSel_upk 7 hb_ rfl rfl rfl), qK1, qK2, Q_HB, qK3, qW3, qE3, qN1_3, qN3_1, qN2_3, qN3_2, qK3_e9, Q_X8_⟩
  refine steps_cons ?_ ?_
  ·rintro b a w' ⟨g3, m8_, ha, qK1, qK2, Q_HB, qK3, qW3, qE3, qN1_3, qN3_1, qN2_3, qN3_2, qK3_e9, Q_X8_⟩ hb_ hon hoff
   refine ⟨_, rfl, fun K hK => ?_⟩
   replace ha := Aside0.mk ha
   have bK1 := Aside0.mk qK1
   have bK2 := Aside0.mk qK2
   have HB := Aside0.mk Q_HB
   refine box_step ?hg (N := 5) ?hd (cs := #[.int .i64 0, .int .i64 0, .int .i64 0, .int .i64 0]) (t := 23) ?hr ?_; (case hd => rfl); (case hg => rfl); (case hr => first | (go_simp; done) | (go_simp; rfl))
   intro g3 hg w13 hbox hb
   have n0_ := kb bK1 hb
   have n1_ := kb bK2 hb
   have n2_ := bt HB hb
   have n3_ := Aside0.mk (hbox)
   have n4_ := gx hg HB
   have n5_ := gx hg HB
   have n6_ := nl hg bK1
   have n7_ := nr hg bK1
   have n8_ := nl hg bK2
   have n9_ := nr hg bK2
   clear bK1
   clear bK2
   clear HB
   have bK1 := n0_
   have bK2 := n1_
   have HB := n2_
   have bK3 := n3_
   have bW3 := n4_
   have bE3 := n5_
   have bN1_3 := n6_
   have bN3_1 := n7_
   have bN2_3 := n8_
   have bN3_2 := n9_
   clear n0_ n1_ n2_ n3_ n4_ n5_ n6_ n7_ n8_ n9_
   clear hb hbox hg
   refine hK.out _ _ ⟨g3, (.pointer (some ⟨g3, 0, none⟩)), (by rw [ha.out]; exact putSel_upk 8 hb_ rfl rfl rfl), (kbx bK1), (kbx bK2), (hbx HB), fun _ _ => (kbx bK3), fun _ => bW3.out, fun _ => bE3.out, fun _ => bN1_3.out, fun _ => bN3_1.out, fun _ => bN2_3.out, fun _ => bN3_2.out, fun h0_ => absurd ((hoff 9 (by kernel_rfl)).symm.trans h0_) (by decide), fun _ => rfl⟩
  refine steps_cons ?_ ?_
  ·rintro b a w' ⟨g3, m8_, ha, qK1, qK2, Q_HB, qK3, qW3, qE3, qN1_3, qN3_1, qN2_3, qN3_2, qK3_e9, Q_X8_⟩ hb_ hon hoff
   refine ⟨_, rfl, fun K hK => ?_⟩
   have e5 : a.tmps[5]? = some (m8_) := by rw [ha]; exact putSel_on (e := (8, 5, m8_)) 8 rfl rfl (hon 8 (by kernel_rfl)) rfl
   rw [Q_X8_ (hon 8 (by kernel_rfl))] at e5
   have e15 : a.tmps[15]? = some (.agg #[.int .i64 t370, .int .i64 t371, .int .i64 t372, .int .i64 t373]) := by rw [ha]; exact putSel_on (e := (6, 15, .agg #[.int .i64 t370, .int .i64 t371, .int .i64 t372, .int .i64 t373])) 6 rfl rfl (hon 6 (by kernel_rfl)) rfl
   replace ha := Aside0.mk ha
   have bK1 := Aside0.mk qK1
   have bK2 := Aside0.mk qK2
   have HB := Aside0.mk Q_HB
   have bK3 := Aside0.mk (qK3 (hon 8 (by kernel_rfl)) hb_)
   have bW3 := Aside0.mk (qW3 (hon 8 (by kernel_rfl)))
   have bE3 := Aside0.mk (qE3 (hon 8 (by kernel_rfl)))
   have bN1_3 := Aside0.mk (qN1_3 (hon 8 (by kernel_rfl)))
   have bN3_1 := Aside0.mk (qN3_1 (hon 8 (by kernel_rfl)))
   have bN2_3 := Aside0.mk (qN2_3 (hon 8 (by kernel_rfl)))
   have bN3_2 := Aside0.mk (qN3_2 (hon 8 (by kernel_rfl)))
   have hs18 : w'.cell? ⟨g3, 0, none⟩ = some (.int .i64 0) := (blk_cell bK3.out 0).trans rfl
   have hfs18 := blk_frozen bK3.out 0
   have hns18_0 := bN1_3.out
   have hns18_1 := bN2_3.out
   have hms18_0 := bN3_1.out
   have hms18_1 := bN3_2.out
   have hs19 : w'.cell? ⟨g3, 1, none⟩ = some (.int .i64 0) := (blk_cell bK3.out 1).trans rfl
   have hfs19 := blk_frozen bK3.out 1
   have hns19_0 := bN1_3.out
   have hns19_1 := bN2_3.out
   have hms19_0 := bN3_1.out
   have hms19_1 := bN3_2.out
   have hs20 : w'.cell? ⟨g3, 2, none⟩ = some (.int .i64 0) := (blk_cell bK3.out 2).trans rfl
   have hfs20 := blk_frozen bK3.out 2
   have hns20_0 := bN1_3.out
   have hns20_1 := bN2_3.out
   have hms20_0 := bN3_1.out
   have hms20_1 := bN3_2.out
   have hs21 : w'.cell? ⟨g3, 3, none⟩ = some (.int .i64 0) := (blk_cell bK3.out 3).trans rfl
   have hfs21 := blk_frozen bK3.out 3
   have hns21_0 := bN1_3.out
   have hns21_1 := bN2_3.out
   have hms21_0 := bN3_1.out
   have hms21_1 := bN3_2.out
   refine skip_ (w1 := ?_) (by rfl) rfl ?_ ?_
   rotate_left
   ·go_simp
    rfl
   refine hK.out _ _ ⟨g3, m8_, (by rw [ha.out]; exact putSel_none (v := undef) rfl), (kfx bK1), (kfx bK2), (hbx HB), fun _ h1_ => absurd ((up_self b 9).symm.trans h1_) (by decide), fun _ => bW3.out, fun _ => bE3.out, fun _ => bN1_3.out, fun _ => bN3_1.out, fun _ => bN2_3.out, fun _ => bN3_2.out, fun _ => (by (with_reducible repeat (first | refine blk_drewN ?_ _ | refine blk_drew ?_ | refine blk_alloc ?_ _)); refine blk_put (cs := #[.int .i64 t370, .int .i64 t371, .int .i64 t372, .int .i64 0]) ?_ 3 _ rfl; (with_reducible repeat (first | refine blk_drewN ?_ _ | refine blk_drew ?_ | refine blk_alloc ?_ _)); refine blk_put (cs := #[.int .i64 t370, .int .i64 t371, .int .i64 0, .int .i64 0]) ?_ 2 _ rfl; (with_reducible repeat (first | refine blk_drewN ?_ _ | refine blk_drew ?_ | refine blk_alloc ?_ _)); refine blk_put (cs := #[.int .i64 t370, .int .i64 0, .int .i64 0, .int .i64 0]) ?_ 1 _ rfl; (with_reducible repeat (first | refine blk_drewN ?_ _ | refine blk_drew ?_ | refine blk_alloc ?_ _)); refine blk_put (cs := #[.int .i64 0, .int .i64 0, .int .i64 0, .int .i64 0]) ?_ 0 _ rfl; (with_reducible repeat (first | refine blk_drewN ?_ _ | refine blk_drew ?_ | refine blk_alloc ?_ _)); exact bK3.out), Q_X8_⟩
  refine steps_cons ?_ ?_
  ·rintro b a w' ⟨g3, m8_, ha, qK1, qK2, Q_HB, qK3, qW3, qE3, qN1_3, qN3_1, qN2_3, qN3_2, qK3_e9, Q_X8_⟩ hb_ hon hoff
   refine ⟨_, rfl, fun K hK => ?_⟩
   have e16 : a.tmps[16]? = some (.int .i64 t374) := by rw [ha]; exact putSel_on (e := (7, 16, .int .i64 t374)) 7 rfl rfl (hon 7 (by kernel_rfl)) rfl
   replace ha := Aside0.mk ha
   have bK1 := Aside0.mk qK1
   have bK2 := Aside0.mk qK2
   have HB := Aside0.mk Q_HB
   have bW3 := Aside0.mk (qW3 (hon 8 (by kernel_rfl)))
   have bE3 := Aside0.mk (qE3 (hon 8 (by kernel_rfl)))
   have bN1_3 := Aside0.mk (qN1_3 (hon 8 (by kernel_rfl)))
   have bN3_1 := Aside0.mk (qN3_1 (hon 8 (by kernel_rfl)))
   have bN2_3 := Aside0.mk (qN2_3 (hon 8 (by kernel_rfl)))
   have bN3_2 := Aside0.mk (qN3_2 (hon 8 (by kernel_rfl)))
   have bK3 := Aside0.mk (qK3_e9 (hon 9 (by kernel_rfl)))
   refine value_ (w1 := w') (v := .int .i64 t374) (by rfl) rfl ?_ ?_
   ·go_simp
    (try simp only [i64_w])
    try rfl
   refine hK.out _ _ ⟨g3, m8_, (by rw [ha.out]; exact putSel_upk 9 hb_ rfl rfl rfl), qK1, qK2, Q_HB, fun _ h1_ => absurd ((hon 9 (by kernel_rfl)).symm.trans h1_) (by decide), qW3, qE3, qN1_3, qN3_1, qN2_3, qN3_2, qK3_e9, Q_X8_⟩
  exact steps_nil
 rintro b a w21 hall ⟨g3, m8_, ha, qK1, qK2, Q_HB, qK3, qW3, qE3, qN1_3, qN3_1, qN2_3, qN3_2, qK3_e9, Q_X8_⟩
 clear bK1 bK2 HB
 have hb0_ := hall 0 (by kernel_rfl)
 have hb1_ := hall 1 (by kernel_rfl)
 have hb2_ := hall 2 (by kernel_rfl)
 have hb3_ := hall 3 (by kernel_rfl)
 have hb4_ := hall 4 (by kernel_rfl)
 have hb5_ := hall 5 (by kernel_rfl)
 have hb6_ := hall 6 (by kernel_rfl)
 have hb7_ := hall 7 (by kernel_rfl)
 have hb8_ := hall 8 (by kernel_rfl)
 have hb9_ := hall 9 (by kernel_rfl)
 have hb10_ := hall 10 (by kernel_rfl)
 subst ha
 obtain rfl := Q_X8_ hb8_
 simp only [putSel, hb0_, hb1_, hb2_, hb3_, hb4_, hb5_, hb6_, hb7_, hb8_, hb9_, hb10_, if_true, Act.put, List.setIfInBounds_toArray, List.set_cons_zero, List.set_cons_succ]
 have bK1 := Aside0.mk qK1
 clear qK1
 have bK2 := Aside0.mk qK2
 clear qK2
 have HB := Aside0.mk Q_HB
 clear Q_HB
 clear qK3
 have bW3 := Aside0.mk (qW3 hb8_)
 clear qW3
 have bE3 := Aside0.mk (qE3 hb8_)
 clear qE3
 have bN1_3 := Aside0.mk (qN1_3 hb8_)
 clear qN1_3
 have bN3_1 := Aside0.mk (qN3_1 hb8_)
 clear qN3_1
 have bN2_3 := Aside0.mk (qN2_3 hb8_)
 clear qN2_3
 have bN3_2 := Aside0.mk (qN3_2 hb8_)
 clear qN3_2
 have bK3 := Aside0.mk (qK3_e9 hb9_)
 clear qK3_e9
 clear hall hb0_ hb1_ hb2_ hb3_ hb4_ hb5_ hb6_ hb7_ hb8_ hb9_ hb10_
 try go_wp2
 replace bK1 := Aside0.mk (blk_drew bK1.out)
 replace bK2 := Aside0.mk (blk_drew bK2.out)
 replace bK3 := Aside0.mk (blk_drew bK3.out)
 replace HB := Aside0.mk (below_drew1 HB.out)
 refine start_ (n := 11) (S := fun w' => True) (ds := []) (bl 11 0) (by kernel_rfl) rfl rfl trivial (fun hHeld => ?_); refine with_tabW laws_FnExactShifted.tab2 laws_FnExactShifted.bits2 (fun HT_ HW_ => ?_)
 generalize w21.drew = w22 at bK1 bK2 bK3 HB hHeld ⊢
 refine inv_at [0, 1, 2, 3, 4, 5, 6, 7, 8, 9, 10] (fun a0_ b a w' => ∃ (g4 : Nat) (m8_ : Value), a = putSel a0_ b [(0, 18, .agg #[.int .i64 a0_0, .int .i64 a0_1, .int .i64 a0_2, .int .i64 a0_3]), (1, 19, .agg #[.int .i64 t376, .int .i64 t377, .int .i64 t378, .int .i64 t379]), (2, 20, .agg #[.int .i64 a1_0, .int .i64 a1_1, .int .i64 a1_2]), (3, 21, .agg #[.int .i64 t380, .int .i64 t381, .int .i64 t382]), (4, 22, .tuple #[.agg #[.int .i64 t383, .int .i64 t384, .int .i64 t385, .int .i64 t386], .int .i64 t387]), (5, 17, .tuple #[.agg #[.int .i64 t383, .int .i64 t384, .int .i64 t385, .int .i64 t386], .int .i64 t387]), (6, 23, .agg #[.int .i64 t383, .int .i64 t384, .int .i64 t385, .int .i64 t386]), (7, 24, .int .i64 t387), (8, 7, m8_), (10, 8, .int .i64 t387)] ∧ (w'.heap[g1]? = some (.cells #[.int .i64 a0_0, .int .i64 a0_1, .int .i64 a0_2, .int .i64 a0_3] 31 (0, 0))) ∧ (w'.heap[g2]? = some (.cells #[.int .i64 a1_0, .int .i64 a1_1, .int .i64 a1_2] 43 (0, 0))) ∧ (w'.heap[g3]? = some (.cells #[.int .i64 t370, .int .i64 t371, .int .i64 t372, .int .i64 t373] 23 (0, 0))) ∧ (Below w.heap.size w w') ∧ (b 8 = true → b 9 = false → w'.heap[g4]? = some (.cells #[.int .i64 0, .int .i64 0, .int .i64 0, .int .i64 0] 23 (0, 0))) ∧ (b 8 = true → w.heap.size ≤ g4) ∧ (b 8 = true → w.heap.size ≤ g4) ∧ (b 8 = true → g1 ≠ g4) ∧ (b 8 = true → g4 ≠ g1) ∧ (b 8 = true → g2 ≠ g4) ∧ (b 8 = true → g4 ≠ g2) ∧ (b 8 = true → g3 ≠ g4) ∧ (b 8 = true → g4 ≠ g3) ∧ (b 9 = true → w'.heap[g4]? = some (.cells #[.int .i64 t383, .int .i64 t384, .int .i64 t385, .int .i64 t386] 23 (0, 0))) ∧ (b 8 = true → (m8_ : Value) = .pointer (some ⟨g4, 0, none⟩))) HT_.out HW_.out (by kernel_rfl) (by kernel_rfl) ?_ ?_ ?_
 ·exact ⟨0, .bool false, by simp only [putSel, Bool.false_eq_true, if_false], bK1.out, bK2.out, bK3.out, HB.out, fun h_ => absurd h_ (by decide), fun h_ => absurd h_ (by decide), fun h_ => absurd h_ (by decide), fun h_ => absurd h_ (by decide), fun h_ => absurd h_ (by decide), fun h_ => absurd h_ (by decide), fun h_ => absurd h_ (by decide), fun h_ => absurd h_ (by decide), fun h_ => absurd h_ (by decide), fun h_ => absurd h_ (by decide), fun h_ => absurd h_ (by decide)⟩
 ·skip
  clear bK1 bK2 bK3 HB
  refine steps_cons ?_ ?_
  ·rintro b a w' ⟨g4, m8_, ha, qK1, qK2, qK3, Q_HB, qK4, qW4, qE4, qN1_4, qN4_1, qN2_4, qN4_2, qN3_4, qN4_3, qK4_e9, Q_X8_⟩ hb_ hon hoff
   refine ⟨_, rfl, fun K hK => ?_⟩
   have e2 : a.tmps[2]? = some (.pointer (some ⟨g1, 0, none⟩)) := by rw [ha]; exact (putSel_off rfl).trans rfl
   replace ha := Aside0.mk ha
   have bK1 := Aside0.mk qK1
   have bK2 := Aside0.mk qK2
   have bK3 := Aside0.mk qK3
   have HB := Aside0.mk Q_HB
   have hc0_ : w'.cell? ⟨g1, 0, none⟩ = some (.int .i64 a0_0) := (blk_cell bK1.out 0).trans rfl
   have hc1_ : w'.cell? ⟨g1, 1, none⟩ = some (.int .i64 a0_1) := (blk_cell bK1.out 1).trans rfl
   have hc2_ : w'.cell? ⟨g1, 2, none⟩ = some (.int .i64 a0_2) := (blk_cell bK1.out 2).trans rfl
   have hc3_ : w'.cell? ⟨g1, 3, none⟩ = some (.int .i64 a0_3) := (blk_cell bK1.out 3).trans rfl
   refine value_ (w1 := w') (v := .agg #[.int .i64 a0_0, .int .i64 a0_1, .int .i64 a0_2, .int .i64 a0_3]) (by rfl) rfl ?_ ?_
   ·go_simp
    (try simp only [i64_w])
    try rfl
   refine hK.out _ _ ⟨g4, m8_, (by rw [ha.out]; exact putSel_upk 0 hb_ rfl rfl rfl), qK1, qK2, qK3, Q_HB, qK4, qW4, qE4, qN1_4, qN4_1, qN2_4, qN4_2, qN3_4, qN4_3, fun h0_ => absurd ((hoff 9 (by kernel_rfl)).symm.trans h0_) (by decide), Q_X8_⟩
  refine steps_cons ?_ ?_
  ·rintro b a w' ⟨g4, m8_, ha, qK1, qK2, qK3, Q_HB, qK4, qW4, qE4, qN1_4, qN4_1, qN2_4, qN4_2, qN3_4, qN4_3, qK4_e9, Q_X8_⟩ hb_ hon hoff
   refine ⟨_, rfl, fun K hK => ?_⟩
   have e18 : a.tmps[18]? = some (.agg #[.int .i64 a0_0, .int .i64 a0_1, .int .i64 a0_2, .int .i64 a0_3]) := by rw [ha]; exact putSel_on (e := (0, 18, .agg #[.int .i64 a0_0, .int .i64 a0_1, .int .i64 a0_2, .int .i64 a0_3])) 0 rfl rfl (hon 0 (by kernel_rfl)) rfl
   replace ha := Aside0.mk ha
   have bK1 := Aside0.mk qK1
   have bK2 := Aside0.mk qK2
   have bK3 := Aside0.mk qK3
   have HB := Aside0.mk Q_HB
   refine goes_ Try.func32 (by kernel_rfl) rfl #[.agg #[.int .i64 a0_0, .int .i64 a0_1, .int .i64 a0_2, .int .i64 a0_3]] (by rfl) rfl rfl (by first | (simp only [List.map_toArray, List.map_cons, List.map_nil, Act.eval, Array.getD_eq_getD_getElem?, Option.getD_some, e18]; done) | (simp only [List.map_toArray, List.map_cons, List.map_nil, Act.eval, Array.getD_eq_getD_getElem?, Option.getD_some, e18]; rfl)) ?_
   with_reducible refine (laws_toPlane.calls a0_0 a0_1 a0_2 a0_3 t376 t377 t378 t379 _ A6.out).mono ?_
   rintro e w23 ⟨rfl, hb⟩
   refine ⟨_, rfl, ?_⟩
   have n0_ := kb bK1 hb
   have n1_ := kb bK2 hb
   have n2_ := kb bK3 hb
   have n3_ := bt HB hb
   have zK4 := fun (h0_ : b 8 = true) (h1_ : b 9 = false) => (show w23.heap[g4]? = some (.cells #[.int .i64 0, .int .i64 0, .int .i64 0, .int .i64 0] 23 (0, 0)) from by first | exact (blk_below (g := g4) (o := .cells #[.int .i64 0, .int .i64 0, .int .i64 0, .int .i64 0] 23 (0, 0)) (by (with_reducible repeat (first | refine blk_drewN ?_ _ | refine blk_drew ?_ | refine blk_alloc ?_ _)); exact (qK4 h0_ h1_)) hb))
   clear bK1
   clear bK2
   clear bK3
   clear HB
   have bK1 := n0_
   have bK2 := n1_
   have bK3 := n2_
   have HB := n3_
   clear n0_ n1_ n2_ n3_
   (try clear hb)
   (try clear hb2)
   (try clear hk)
   (try clear hi)
   refine hK.out _ _ ⟨g4, m8_, (by rw [ha.out]; exact putSel_upk 1 hb_ rfl rfl rfl), (kbx bK1), (kbx bK2), (kbx bK3), (hbx HB), zK4, qW4, qE4, qN1_4, qN4_1, qN2_4, qN4_2, qN3_4, qN4_3, fun h0_ => absurd ((hoff 9 (by kernel_rfl)).symm.trans h0_) (by decide), Q_X8_⟩
  refine steps_cons ?_ ?_
  ·rintro b a w' ⟨g4, m8_, ha, qK1, qK2, qK3, Q_HB, qK4, qW4, qE4, qN1_4, qN4_1, qN2_4, qN4_2, qN3_4, qN4_3, qK4_e9, Q_X8_⟩ hb_ hon hoff
   refine ⟨_, rfl, fun K hK => ?_⟩
   have e3 : a.tmps[3]? = some (.pointer (some ⟨g2, 0, none⟩)) := by rw [ha]; exact (putSel_off rfl).trans rfl
   replace ha := Aside0.mk ha
   have bK1 := Aside0.mk qK1
   have bK2 := Aside0.mk qK2
   have bK3 := Aside0.mk qK3
   have HB := Aside0.mk Q_HB
   have hc0_ : w'.cell? ⟨g2, 0, none⟩ = some (.int .i64 a1_0) := (blk_cell bK2.out 0).trans rfl
   have hc1_ : w'.cell? ⟨g2, 1, none⟩ = some (.int .i64 a1_1) := (blk_cell bK2.out 1).trans rfl
   have hc2_ : w'.cell? ⟨g2, 2, none⟩ = some (.int .i64 a1_2) := (blk_cell bK2.out 2).trans rfl
   refine value_ (w1 := w') (v := .agg #[.int .i64 a1_0, .int .i64 a1_1, .int .i64 a1_2]) (by rfl) rfl ?_ ?_
   ·go_simp
    (try simp only [i64_w])
    try rfl
   refine hK.out _ _ ⟨g4, m8_, (by rw [ha.out]; exact putSel_upk 2 hb_ rfl rfl rfl), qK1, qK2, qK3, Q_HB, qK4, qW4, qE4, qN1_4, qN4_1, qN2_4, qN4_2, qN3_4, qN4_3, fun h0_ => absurd ((hoff 9 (by kernel_rfl)).symm.trans h0_) (by decide), Q_X8_⟩
  refine steps_cons ?_ ?_
  ·rintro b a w' ⟨g4, m8_, ha, qK1, qK2, qK3, Q_HB, qK4, qW4, qE4, qN1_4, qN4_1, qN2_4, qN4_2, qN3_4, qN4_3, qK4_e9, Q_X8_⟩ hb_ hon hoff
   refine ⟨_, rfl, fun K hK => ?_⟩
   have e20 : a.tmps[20]? = some (.agg #[.int .i64 a1_0, .int .i64 a1_1, .int .i64 a1_2]) := by rw [ha]; exact putSel_on (e := (2, 20, .agg #[.int .i64 a1_0, .int .i64 a1_1, .int .i64 a1_2])) 2 rfl rfl (hon 2 (by kernel_rfl)) rfl
   replace ha := Aside0.mk ha
   have bK1 := Aside0.mk qK1
   have bK2 := Aside0.mk qK2
   have bK3 := Aside0.mk qK3
   have HB := Aside0.mk Q_HB
   refine goes_ Try.func35 (by kernel_rfl) rfl #[.agg #[.int .i64 a1_0, .int .i64 a1_1, .int .i64 a1_2]] (by rfl) rfl rfl (by first | (simp only [List.map_toArray, List.map_cons, List.map_nil, Act.eval, Array.getD_eq_getD_getElem?, Option.getD_some, e20]; done) | (simp only [List.map_toArray, List.map_cons, List.map_nil, Act.eval, Array.getD_eq_getD_getElem?, Option.getD_some, e20]; rfl)) ?_
   with_reducible refine (laws_toPt.calls a1_0 a1_1 a1_2 t380 t381 t382 _ A7.out).mono ?_
   rintro e w25 ⟨rfl, hb⟩
   refine ⟨_, rfl, ?_⟩
   have n0_ := kb bK1 hb
   have n1_ := kb bK2 hb
   have n2_ := kb bK3 hb
   have n3_ := bt HB hb
   have zK4 := fun (h0_ : b 8 = true) (h1_ : b 9 = false) => (show w25.heap[g4]? = some (.cells #[.int .i64 0, .int .i64 0, .int .i64 0, .int .i64 0] 23 (0, 0)) from by first | exact (blk_below (g := g4) (o := .cells #[.int .i64 0, .int .i64 0, .int .i64 0, .int .i64 0] 23 (0, 0)) (by (with_reducible repeat (first | refine blk_drewN ?_ _ | refine blk_drew ?_ | refine blk_alloc ?_ _)); exact (qK4 h0_ h1_)) hb))
   clear bK1
   clear bK2
   clear bK3
   clear HB
   have bK1 := n0_
   have bK2 := n1_
   have bK3 := n2_
   have HB := n3_
   clear n0_ n1_ n2_ n3_
   (try clear hb)
   (try clear hb2)
   (try clear hk)
   (try clear hi)
   refine hK.out _ _ ⟨g4, m8_, (by rw [ha.out]; exact putSel_upk 3 hb_ rfl rfl rfl), (kbx bK1), (kbx bK2), (kbx bK3), (hbx HB), zK4, qW4, qE4, qN1_4, qN4_1, qN2_4, qN4_2, qN3_4, qN4_3, fun h0_ => absurd ((hoff 9 (by kernel_rfl)).symm.trans h0_) (by decide), Q_X8_⟩
  refine steps_cons ?_ ?_
  ·rintro b a w' ⟨g4, m8_, ha, qK1, qK2, qK3, Q_HB, qK4, qW4, qE4, qN1_4, qN4_1, qN2_4, qN4_2, qN3_4, qN4_3, qK4_e9, Q_X8_⟩ hb_ hon hoff
   refine ⟨_, rfl, fun K hK => ?_⟩
   have e19 : a.tmps[19]? = some (.agg #[.int .i64 t376, .int .i64 t377, .int .i64 t378, .int .i64 t379]) := by rw [ha]; exact putSel_on (e := (1, 19, .agg #[.int .i64 t376, .int .i64 t377, .int .i64 t378, .int .i64 t379])) 1 rfl rfl (hon 1 (by kernel_rfl)) rfl
   have e21 : a.tmps[21]? = some (.agg #[.int .i64 t380, .int .i64 t381, .int .i64 t382]) := by rw [ha]; exact putSel_on (e := (3, 21, .agg #[.int .i64 t380, .int .i64 t381, .int .i64 t382])) 3 rfl rfl (hon 3 (by kernel_rfl)) rfl
   replace ha := Aside0.mk ha
   have bK1 := Aside0.mk qK1
   have bK2 := Aside0.mk qK2
   have bK3 := Aside0.mk qK3
   have HB := Aside0.mk Q_HB
   refine goes_ Try.func36 (by kernel_rfl) rfl #[.agg #[.int .i64 t376, .int .i64 t377, .int .i64 t378, .int .i64 t379], .agg #[.int .i64 t380, .int .i64 t381, .int .i64 t382]] (by rfl) rfl rfl (by first | (simp only [List.map_toArray, List.map_cons, List.map_nil, Act.eval, Array.getD_eq_getD_getElem?, Option.getD_some, e19, e21]; done) | (simp only [List.map_toArray, List.map_cons, List.map_nil, Act.eval, Array.getD_eq_getD_getElem?, Option.getD_some, e19, e21]; rfl)) ?_
   with_reducible refine (impl_Shifted.calls k t376 t377 t378 t379 t380 t381 t382 t383 t384 t385 t386 t387 _ A8.out).mono ?_
   rintro e w26 ⟨rfl, hb⟩
   refine ⟨_, rfl, ?_⟩
   have n0_ := kb bK1 hb
   have n1_ := kb bK2 hb
   have n2_ := kb bK3 hb
   have n3_ := bt HB hb
   have zK4 := fun (h0_ : b 8 = true) (h1_ : b 9 = false) => (show w26.heap[g4]? = some (.cells #[.int .i64 0, .int .i64 0, .int .i64 0, .int .i64 0] 23 (0, 0)) from by first | exact (blk_below (g := g4) (o := .cells #[.int .i64 0, .int .i64 0, .int .i64 0, .int .i64 0] 23 (0, 0)) (by (with_reducible repeat (first | refine blk_drewN ?_ _ | refine blk_drew ?_ | refine blk_alloc ?_ _)); exact (qK4 h0_ h1_)) hb))
   clear bK1
   clear bK2
   clear bK3
   clear HB
   have bK1 := n0_
   have bK2 := n1_
   have bK3 := n2_
   have HB := n3_
   clear n0_ n1_ n2_ n3_
   (try clear hb)
   (try clear hb2)
   (try clear hk)
   (try clear hi)
   refine hK.out _ _ ⟨g4, m8_, (by rw [ha.out]; exact putSel_upk 4 hb_ rfl rfl rfl), (kbx bK1), (kbx bK2), (kbx bK3), (hbx HB), zK4, qW4, qE4, qN1_4, qN4_1, qN2_4, qN4_2, qN3_4, qN4_3, fun h0_ => absurd ((hoff 9 (by kernel_rfl)).symm.trans h0_) (by decide), Q_X8_⟩
  refine steps_cons ?_ ?_
  ·rintro b a w' ⟨g4, m8_, ha, qK1, qK2, qK3, Q_HB, qK4, qW4, qE4, qN1_4, qN4_1, qN2_4, qN4_2, qN3_4, qN4_3, qK4_e9, Q_X8_⟩ hb_ hon hoff
   refine ⟨_, rfl, fun K hK => ?_⟩
   have e22 : a.tmps[22]? = some (.tuple #[.agg #[.int .i64 t383, .int .i64 t384, .int .i64 t385, .int .i64 t386], .int .i64 t387]) := by rw [ha]; exact putSel_on (e := (4, 22, .tuple #[.agg #[.int .i64 t383, .int .i64 t384, .int .i64 t385, .int .i64 t386], .int .i64 t387])) 4 rfl rfl (hon 4 (by kernel_rfl)) rfl
   replace ha := Aside0.mk ha
   have bK1 := Aside0.mk qK1
   have bK2 := Aside0.mk qK2
   have bK3 := Aside0.mk qK3
   have HB := Aside0.mk Q_HB
   refine value_ (w1 := w') (v := .tuple #[.agg #[.int .i64 t383, .int .i64 t384, .int .i64 t385, .int .i64 t386], .int .i64 t387]) (by rfl) rfl ?_ ?_
   ·go_simp
    (try simp only [i64_w])
    try rfl
   refine hK.out _ _ ⟨g4, m8_, (by rw [ha.out]; exact putSel_upk 5 hb_ rfl rfl rfl), qK1, qK2, qK3, Q_HB, qK4, qW4, qE4, qN1_4, qN4_1, qN2_4, qN4_2, qN3_4, qN4_3, fun h0_ => absurd ((hoff 9 (by kernel_rfl)).symm.trans h0_) (by decide), Q_X8_⟩
  refine steps_cons ?_ ?_
  ·rintro b a w' ⟨g4, m8_, ha, qK1, qK2, qK3, Q_HB, qK4, qW4, qE4, qN1_4, qN4_1, qN2_4, qN4_2, qN3_4, qN4_3, qK4_e9, Q_X8_⟩ hb_ hon hoff
   refine ⟨_, rfl, fun K hK => ?_⟩
   have e17 : a.tmps[17]? = some (.tuple #[.agg #[.int .i64 t383, .int .i64 t384, .int .i64 t385, .int .i64 t386], .int .i64 t387]) := by rw [ha]; exact putSel_on (e := (5, 17, .tuple #[.agg #[.int .i64 t383, .int .i64 t384, .int .i64 t385, .int .i64 t386], .int .i64 t387])) 5 rfl rfl (hon 5 (by kernel_rfl)) rfl
   replace ha := Aside0.mk ha
   have bK1 := Aside0.mk qK1
   have bK2 := Aside0.mk qK2
   have bK3 := Aside0.mk qK3
   have HB := Aside0.mk Q_HB
   refine value_ (w1 := w') (v := .agg #[.int .i64 t383, .int .i64 t384, .int .i64 t385, .int .i64 t386]) (by rfl) rfl ?_ ?_
   ·go_simp
    (try simp only [i64_w])
    try rfl
   refine hK.out _ _ ⟨g4, m8_, (by rw [ha.out]; exact putSel_upk 6 hb_ rfl rfl rfl), qK1, qK2, qK3, Q_HB, qK4, qW4, qE4, qN1_4, qN4_1, qN2_4, qN4_2, qN3_4, qN4_3, fun h0_ => absurd ((hoff 9 (by kernel_rfl)).symm.trans h0_) (by decide), Q_X8_⟩
  refine steps_cons ?_ ?_
  ·rintro b a w' ⟨g4, m8_, ha, qK1, qK2, qK3, Q_HB, qK4, qW4, qE4, qN1_4, qN4_1, qN2_4, qN4_2, qN3_4, qN4_3, qK4_e9, Q_X8_⟩ hb_ hon hoff
   refine ⟨_, rfl, fun K hK => ?_⟩
   have e17 : a.tmps[17]? = some (.tuple #[.agg #[.int .i64 t383, .int .i64 t384, .int .i64 t385, .int .i64 t386], .int .i64 t387]) := by rw [ha]; exact putSel_on (e := (5, 17, .tuple #[.agg #[.int .i64 t383, .int .i64 t384, .int .i64 t385, .int .i64 t386], .int .i64 t387])) 5 rfl rfl (hon 5 (by kernel_rfl)) rfl
   replace ha := Aside0.mk ha
   have bK1 := Aside0.mk qK1
   have bK2 := Aside0.mk qK2
   have bK3 := Aside0.mk qK3
   have HB := Aside0.mk Q_HB
   refine value_ (w1 := w') (v := .int .i64 t387) (by rfl) rfl ?_ ?_
   ·go_simp
    (try simp only [i64_w])
    try rfl
   refine hK.out _ _ ⟨g4, m8_, (by rw [ha.out]; exact putSel_upk 7 hb_ rfl rfl rfl), qK1, qK2, qK3, Q_HB, qK4, qW4, qE4, qN1_4, qN4_1, qN2_4, qN4_2, qN3_4, qN4_3, qK4_e9, Q_X8_⟩
  refine steps_cons ?_ ?_
  ·rintro b a w' ⟨g4, m8_, ha, qK1, qK2, qK3, Q_HB, qK4, qW4, qE4, qN1_4, qN4_1, qN2_4, qN4_2, qN3_4, qN4_3, qK4_e9, Q_X8_⟩ hb_ hon hoff
   refine ⟨_, rfl, fun K hK => ?_⟩
   replace ha := Aside0.mk ha
   have bK1 := Aside0.mk qK1
   have bK2 := Aside0.mk qK2
   have bK3 := Aside0.mk qK3
   have HB := Aside0.mk Q_HB
   refine box_step ?hg (N := 7) ?hd (cs := #[.int .i64 0, .int .i64 0, .int .i64 0, .int .i64 0]) (t := 23) ?hr ?_; (case hd => rfl); (case hg => rfl); (case hr => first | (go_simp; done) | (go_simp; rfl))
   intro g4 hg w23 hbox hb
   have n0_ := kb bK1 hb
   have n1_ := kb bK2 hb
   have n2_ := kb bK3 hb
   have n3_ := bt HB hb
   have n4_ := Aside0.mk (hbox)
   have n5_ := gx hg HB
   have n6_ := gx hg HB
   have n7_ := nl hg bK1
   have n8_ := nr hg bK1
   have n9_ := nl hg bK2
   have n10_ := nr hg bK2
   have n11_ := nl hg bK3
   have n12_ := nr hg bK3
   clear bK1
   clear bK2
   clear bK3
   clear HB
   have bK1 := n0_
   have bK2 := n1_
   have bK3 := n2_
   have HB := n3_
   have bK4 := n4_
   have bW4 := n5_
   have bE4 := n6_
   have bN1_4 := n7_
   have bN4_1 := n8_
   have bN2_4 := n9_
   have bN4_2 := n10_
   have bN3_4 := n11_
   have bN4_3 := n12_
   clear n0_ n1_ n2_ n3_ n4_ n5_ n6_ n7_ n8_ n9_ n10_ n11_ n12_
   clear hb hbox hg
   refine hK.out _ _ ⟨g4, (.pointer (some ⟨g4, 0, none⟩)), (by rw [ha.out]; exact putSel_upk 8 hb_ rfl rfl rfl), (kbx bK1), (kbx bK2), (kbx bK3), (hbx HB), fun _ _ => (kbx bK4), fun _ => bW4.out, fun _ => bE4.out, fun _ => bN1_4.out, fun _ => bN4_1.out, fun _ => bN2_4.out, fun _ => bN4_2.out, fun _ => bN3_4.out, fun _ => bN4_3.out, fun h0_ => absurd ((hoff 9 (by kernel_rfl)).symm.trans h0_) (by decide), fun _ => rfl⟩
  refine steps_cons ?_ ?_
  ·rintro b a w' ⟨g4, m8_, ha, qK1, qK2, qK3, Q_HB, qK4, qW4, qE4, qN1_4, qN4_1, qN2_4, qN4_2, qN3_4, qN4_3, qK4_e9, Q_X8_⟩ hb_ hon hoff
   refine ⟨_, rfl, fun K hK => ?_⟩
   have e7 : a.tmps[7]? = some (m8_) := by rw [ha]; exact putSel_on (e := (8, 7, m8_)) 8 rfl rfl (hon 8 (by kernel_rfl)) rfl
   rw [Q_X8_ (hon 8 (by kernel_rfl))] at e7
   have e23 : a.tmps[23]? = some (.agg #[.int .i64 t383, .int .i64 t384, .int .i64 t385, .int .i64 t386]) := by rw [ha]; exact putSel_on (e := (6, 23, .agg #[.int .i64 t383, .int .i64 t384, .int .i64 t385, .int .i64 t386])) 6 rfl rfl (hon 6 (by kernel_rfl)) rfl
   replace ha := Aside0.mk ha
   have bK1 := Aside0.mk qK1
   have bK2 := Aside0.mk qK2
   have bK3 := Aside0.mk qK3
   have HB := Aside0.mk Q_HB
   have bK4 := Aside0.mk (qK4 (hon 8 (by kernel_rfl)) hb_)
   have bW4 := Aside0.mk (qW4 (hon 8 (by kernel_rfl)))
   have bE4 := Aside0.mk (qE4 (hon 8 (by kernel_rfl)))
   have bN1_4 := Aside0.mk (qN1_4 (hon 8 (by kernel_rfl)))
   have bN4_1 := Aside0.mk (qN4_1 (hon 8 (by kernel_rfl)))
   have bN2_4 := Aside0.mk (qN2_4 (hon 8 (by kernel_rfl)))
   have bN4_2 := Aside0.mk (qN4_2 (hon 8 (by kernel_rfl)))
   have bN3_4 := Aside0.mk (qN3_4 (hon 8 (by kernel_rfl)))
   have bN4_3 := Aside0.mk (qN4_3 (hon 8 (by kernel_rfl)))
   have hs28 : w'.cell? ⟨g4, 0, none⟩ = some (.int .i64 0) := (blk_cell bK4.out 0).trans rfl
   have hfs28 := blk_frozen bK4.out 0
   have hns28_0 := bN1_4.out
   have hns28_1 := bN2_4.out
   have hns28_2 := bN3_4.out
   have hms28_0 := bN4_1.out
   have hms28_1 := bN4_2.out
   have hms28_2 := bN4_3.out
   have hs29 : w'.cell? ⟨g4, 1, none⟩ = some (.int .i64 0) := (blk_cell bK4.out 1).trans rfl
   have hfs29 := blk_frozen bK4.out 1
   have hns29_0 := bN1_4.out
   have hns29_1 := bN2_4.out
   have hns29_2 := bN3_4.out
   have hms29_0 := bN4_1.out
   have hms29_1 := bN4_2.out
   have hms29_2 := bN4_3.out
   have hs30 : w'.cell? ⟨g4, 2, none⟩ = some (.int .i64 0) := (blk_cell bK4.out 2).trans rfl
   have hfs30 := blk_frozen bK4.out 2
   have hns30_0 := bN1_4.out
   have hns30_1 := bN2_4.out
   have hns30_2 := bN3_4.out
   have hms30_0 := bN4_1.out
   have hms30_1 := bN4_2.out
   have hms30_2 := bN4_3.out
   have hs31 : w'.cell? ⟨g4, 3, none⟩ = some (.int .i64 0) := (blk_cell bK4.out 3).trans rfl
   have hfs31 := blk_frozen bK4.out 3
   have hns31_0 := bN1_4.out
   have hns31_1 := bN2_4.out
   have hns31_2 := bN3_4.out
   have hms31_0 := bN4_1.out
   have hms31_1 := bN4_2.out
   have hms31_2 := bN4_3.out
   refine skip_ (w1 := ?_) (by rfl) rfl ?_ ?_
   rotate_left
   ·go_simp
    rfl
   refine hK.out _ _ ⟨g4, m8_, (by rw [ha.out]; exact putSel_none (v := undef) rfl), (kfx bK1), (kfx bK2), (kfx bK3), (hbx HB), fun _ h1_ => absurd ((up_self b 9).symm.trans h1_) (by decide), fun _ => bW4.out, fun _ => bE4.out, fun _ => bN1_4.out, fun _ => bN4_1.out, fun _ => bN2_4.out, fun _ => bN4_2.out, fun _ => bN3_4.out, fun _ => bN4_3.out, fun _ => (by (with_reducible repeat (first | refine blk_drewN ?_ _ | refine blk_drew ?_ | refine blk_alloc ?_ _)); refine blk_put (cs := #[.int .i64 t383, .int .i64 t384, .int .i64 t385, .int .i64 0]) ?_ 3 _ rfl; (with_reducible repeat (first | refine blk_drewN ?_ _ | refine blk_drew ?_ | refine blk_alloc ?_ _)); refine blk_put (cs := #[.int .i64 t383, .int .i64 t384, .int .i64 0, .int .i64 0]) ?_ 2 _ rfl; (with_reducible repeat (first | refine blk_drewN ?_ _ | refine blk_drew ?_ | refine blk_alloc ?_ _)); refine blk_put (cs := #[.int .i64 t383, .int .i64 0, .int .i64 0, .int .i64 0]) ?_ 1 _ rfl; (with_reducible repeat (first | refine blk_drewN ?_ _ | refine blk_drew ?_ | refine blk_alloc ?_ _)); refine blk_put (cs := #[.int .i64 0, .int .i64 0, .int .i64 0, .int .i64 0]) ?_ 0 _ rfl; (with_reducible repeat (first | refine blk_drewN ?_ _ | refine blk_drew ?_ | refine blk_alloc ?_ _)); exact bK4.out), Q_X8_⟩
  refine steps_cons ?_ ?_
  ·rintro b a w' ⟨g4, m8_, ha, qK1, qK2, qK3, Q_HB, qK4, qW4, qE4, qN1_4, qN4_1, qN2_4, qN4_2, qN3_4, qN4_3, qK4_e9, Q_X8_⟩ hb_ hon hoff
   refine ⟨_, rfl, fun K hK => ?_⟩
   have e24 : a.tmps[24]? = some (.int .i64 t387) := by rw [ha]; exact putSel_on (e := (7, 24, .int .i64 t387)) 7 rfl rfl (hon 7 (by kernel_rfl)) rfl
   replace ha := Aside0.mk ha
   have bK1 := Aside0.mk qK1
   have bK2 := Aside0.mk qK2
   have bK3 := Aside0.mk qK3
   have HB := Aside0.mk Q_HB
   have bW4 := Aside0.mk (qW4 (hon 8 (by kernel_rfl)))
   have bE4 := Aside0.mk (qE4 (hon 8 (by kernel_rfl)))
   have bN1_4 := Aside0.mk (qN1_4 (hon 8 (by kernel_rfl)))
   have bN4_1 := Aside0.mk (qN4_1 (hon 8 (by kernel_rfl)))
   have bN2_4 := Aside0.mk (qN2_4 (hon 8 (by kernel_rfl)))
   have bN4_2 := Aside0.mk (qN4_2 (hon 8 (by kernel_rfl)))
   have bN3_4 := Aside0.mk (qN3_4 (hon 8 (by kernel_rfl)))
   have bN4_3 := Aside0.mk (qN4_3 (hon 8 (by kernel_rfl)))
   have bK4 := Aside0.mk (qK4_e9 (hon 9 (by kernel_rfl)))
   refine value_ (w1 := w') (v := .int .i64 t387) (by rfl) rfl ?_ ?_
   ·go_simp
    (try simp only [i64_w])
    try rfl
   refine hK.out _ _ ⟨g4, m8_, (by rw [ha.out]; exact putSel_upk 9 hb_ rfl rfl rfl), qK1, qK2, qK3, Q_HB, fun _ h1_ => absurd ((hon 9 (by kernel_rfl)).symm.trans h1_) (by decide), qW4, qE4, qN1_4, qN4_1, qN2_4, qN4_2, qN3_4, qN4_3, qK4_e9, Q_X8_⟩
  exact steps_nil
 rintro b a w31 hall ⟨g4, m8_, ha, qK1, qK2, qK3, Q_HB, qK4, qW4, qE4, qN1_4, qN4_1, qN2_4, qN4_2, qN3_4, qN4_3, qK4_e9, Q_X8_⟩
 clear bK1 bK2 bK3 HB
 have hb0_ := hall 0 (by kernel_rfl)
 have hb1_ := hall 1 (by kernel_rfl)
 have hb2_ := hall 2 (by kernel_rfl)
 have hb3_ := hall 3 (by kernel_rfl)
 have hb4_ := hall 4 (by kernel_rfl)
 have hb5_ := hall 5 (by kernel_rfl)
 have hb6_ := hall 6 (by kernel_rfl)
 have hb7_ := hall 7 (by kernel_rfl)
 have hb8_ := hall 8 (by kernel_rfl)
 have hb9_ := hall 9 (by kernel_rfl)
 have hb10_ := hall 10 (by kernel_rfl)
 subst ha
 obtain rfl := Q_X8_ hb8_
 simp only [putSel, hb0_, hb1_, hb2_, hb3_, hb4_, hb5_, hb6_, hb7_, hb8_, hb9_, hb10_, if_true, Act.put, List.setIfInBounds_toArray, List.set_cons_zero, List.set_cons_succ]
 have bK1 := Aside0.mk qK1
 clear qK1
 have bK2 := Aside0.mk qK2
 clear qK2
 have bK3 := Aside0.mk qK3
 clear qK3
 have HB := Aside0.mk Q_HB
 clear Q_HB
 clear qK4
 have bW4 := Aside0.mk (qW4 hb8_)
 clear qW4
 have bE4 := Aside0.mk (qE4 hb8_)
 clear qE4
 have bN1_4 := Aside0.mk (qN1_4 hb8_)
 clear qN1_4
 have bN4_1 := Aside0.mk (qN4_1 hb8_)
 clear qN4_1
 have bN2_4 := Aside0.mk (qN2_4 hb8_)
 clear qN2_4
 have bN4_2 := Aside0.mk (qN4_2 hb8_)
 clear qN4_2
 have bN3_4 := Aside0.mk (qN3_4 hb8_)
 clear qN3_4
 have bN4_3 := Aside0.mk (qN4_3 hb8_)
 clear qN4_3
 have bK4 := Aside0.mk (qK4_e9 hb9_)
 clear qK4_e9
 clear hall hb0_ hb1_ hb2_ hb3_ hb4_ hb5_ hb6_ hb7_ hb8_ hb9_ hb10_
 go_upto_region 3 with (fail)
 go_cut [33] (fun v33 wc => ∃ (kq : Nat) (x33_8 : Bool), v33 = .bool x33_8 ∧ Aside0 (laws_FnExactShifted.j0 kq x33_8 = some r) ∧ Aside0 (kq ≤ k) ∧ Aside0 (wc.heap[g1]? = some (.cells #[.int .i64 a0_0, .int .i64 a0_1, .int .i64 a0_2, .int .i64 a0_3] 31 (0, 0))) ∧ Aside0 (wc.heap[g2]? = some (.cells #[.int .i64 a1_0, .int .i64 a1_1, .int .i64 a1_2] 43 (0, 0))) ∧ Aside0 (wc.heap[g3]? = some (.cells #[.int .i64 t370, .int .i64 t371, .int .i64 t372, .int .i64 t373] 23 (0, 0))) ∧ Aside0 (wc.heap[g4]? = some (.cells #[.int .i64 t383, .int .i64 t384, .int .i64 t385, .int .i64 t386] 23 (0, 0))) ∧ Aside0 (Below w.heap.size w wc))
 case first =>
  have H := HC9.out
  clear HC9
  obtain ⟨t389, A32, H⟩ := bi H
  by_cases c33 : t389 = true
  ·subst c33
   have H1 : (laws_FnExactShifted.j0 k (t387 != t374)) = some r := by rw [if_pos rfl] at H; exact H
   clear H
   have H := H1
   clear H1
   have H' := Aside0.mk H
   clear H
   have hnb34 := bN4_1.out
   have hnc34 := bN1_4.out
   have hnb35 := bN4_2.out
   have hnc35 := bN2_4.out
   have hnb36 := bN4_3.out
   have hnc36 := bN3_4.out
   obtain ⟨hcz37_0, hcz37_1, hcz37_2, hcz37_3, hfz37_0, hfz37_1, hfz37_2, hfz37_3⟩ := cz4 bK4
   have hnb38 := bN3_1.out
   have hnc38 := bN1_3.out
   have hnb39 := bN3_2.out
   have hnc39 := bN2_3.out
   obtain ⟨hcz40_0, hcz40_1, hcz40_2, hcz40_3, hfz40_0, hfz40_1, hfz40_2, hfz40_3⟩ := cz4 bK3
   go_wp2_with (first | ((with_reducible refine gate_callee (f := 37) rfl ?_); refine gL 27 Try.func37 #[.agg #[.int .i64 t383, .int .i64 t384, .int .i64 t385, .int .i64 t386], .agg #[.int .i64 t370, .int .i64 t371, .int .i64 t372, .int .i64 t373]] ?_; (with_reducible refine (laws_eqPlane.calls t383 t384 t385 t386 t370 t371 t372 t373 true _ A32.out).mono ?_); rintro e w41 ⟨rfl, hb⟩; refine ⟨_, rfl, ?_⟩; replace bK1 := kb bK1 hb; replace bK2 := kb bK2 hb; replace bK3 := kb bK3 hb; replace bK4 := kb bK4 hb; replace HB := bt HB hb; (try clear hb); (try clear hb2); (try clear hk); (try clear hi)))
   go_meet
   case rel => exact ⟨_, ((t387 != t374)), re, H', ⟨by first | omega | exact Nat.le_refl _⟩, ⟨by (with_reducible repeat (first | refine blk_drewN ?_ _ | refine blk_drew ?_ | refine blk_alloc ?_ _)); exact bK1.out⟩, ⟨by (with_reducible repeat (first | refine blk_drewN ?_ _ | refine blk_drew ?_ | refine blk_alloc ?_ _)); exact bK2.out⟩, ⟨by (with_reducible repeat (first | refine blk_drewN ?_ _ | refine blk_drew ?_ | refine blk_alloc ?_ _)); exact bK3.out⟩, ⟨by (with_reducible repeat (first | refine blk_drewN ?_ _ | refine blk_drew ?_ | refine blk_alloc ?_ _)); exact bK4.out⟩, ⟨by repeat (first | (with_reducible first | exact HB.out | apply below_alloc | apply pw_below_drewN | apply below_drew1 | refine below_set ?_ bE1.out | refine below_set ?_ bE2.out | refine below_set ?_ bE3.out | refine below_set ?_ bE4.out) | exact HB.out)⟩⟩
  replace c33 := Bool.eq_false_iff.mpr c33
  subst c33
  have H1 : (laws_FnExactShifted.j0 k true) = some r := by rw [if_neg (show ¬ (false = true) by decide)] at H; exact H
  clear H
  have H := H1
  clear H1
  have H' := Aside0.mk H
  clear H
  have hnb42 := bN4_1.out
  have hnc42 := bN1_4.out
  have hnb43 := bN4_2.out
  have hnc43 := bN2_4.out
  have hnb44 := bN4_3.out
  have hnc44 := bN3_4.out
  obtain ⟨hcz45_0, hcz45_1, hcz45_2, hcz45_3, hfz45_0, hfz45_1, hfz45_2, hfz45_3⟩ := cz4 bK4
  have hnb46 := bN3_1.out
  have hnc46 := bN1_3.out
  have hnb47 := bN3_2.out
  have hnc47 := bN2_3.out
  obtain ⟨hcz48_0, hcz48_1, hcz48_2, hcz48_3, hfz48_0, hfz48_1, hfz48_2, hfz48_3⟩ := cz4 bK3
  go_wp2_with (first | ((with_reducible refine gate_callee (f := 37) rfl ?_); refine gL 27 Try.func37 #[.agg #[.int .i64 t383, .int .i64 t384, .int .i64 t385, .int .i64 t386], .agg #[.int .i64 t370, .int .i64 t371, .int .i64 t372, .int .i64 t373]] ?_; (with_reducible refine (laws_eqPlane.calls t383 t384 t385 t386 t370 t371 t372 t373 false _ A32.out).mono ?_); rintro e w49 ⟨rfl, hb⟩; refine ⟨_, rfl, ?_⟩; replace bK1 := kb bK1 hb; replace bK2 := kb bK2 hb; replace bK3 := kb bK3 hb; replace bK4 := kb bK4 hb; replace HB := bt HB hb; (try clear hb); (try clear hb2); (try clear hk); (try clear hi)))
  go_meet
  case rel => exact ⟨_, (true), re, H', ⟨by first | omega | exact Nat.le_refl _⟩, ⟨by (with_reducible repeat (first | refine blk_drewN ?_ _ | refine blk_drew ?_ | refine blk_alloc ?_ _)); exact bK1.out⟩, ⟨by (with_reducible repeat (first | refine blk_drewN ?_ _ | refine blk_drew ?_ | refine blk_alloc ?_ _)); exact bK2.out⟩, ⟨by (with_reducible repeat (first | refine blk_drewN ?_ _ | refine blk_drew ?_ | refine blk_alloc ?_ _)); exact bK3.out⟩, ⟨by (with_reducible repeat (first | refine blk_drewN ?_ _ | refine blk_drew ?_ | refine blk_alloc ?_ _)); exact bK4.out⟩, ⟨by repeat (first | (with_reducible first | exact HB.out | apply below_alloc | apply pw_below_drewN | apply below_drew1 | refine below_set ?_ bE1.out | refine below_set ?_ bE2.out | refine below_set ?_ bE3.out | refine below_set ?_ bE4.out) | exact HB.out)⟩⟩
 case rest =>
  clear HC9
  try clear c1
  try clear c2
  try clear p2
  try clear c3
  try clear c4
  try clear p6
  try clear c32
  try clear c33
  try clear c34
  try clear c35
  try clear c36
  try clear c37
  try clear c38
  try clear c39
  try clear c42
  try clear c43
  try clear c44
  try clear c46
  try clear c47
  try clear hcz37_0
  try clear hcz37_1
  try clear hcz37_2
  try clear hcz37_3
  try clear hcz40_0
  try clear hcz40_1
  try clear hcz40_2
  try clear hcz40_3
  try clear hcz45_0
  try clear hcz45_1
  try clear hcz45_2
  try clear hcz45_3
  try clear hcz48_0
  try clear hcz48_1
  try clear hcz48_2
  try clear hcz48_3
  try clear hfz37_0
  try clear hfz37_1
  try clear hfz37_2
  try clear hfz37_3
  try clear hfz40_0
  try clear hfz40_1
  try clear hfz40_2
  try clear hfz40_3
  try clear hfz45_0
  try clear hfz45_1
  try clear hfz45_2
  try clear hfz45_3
  try clear hfz48_0
  try clear hfz48_1
  try clear hfz48_2
  try clear hfz48_3
  obtain ⟨kq, x33_8, rfl, HA, HJ8, bK1, bK2, bK3, bK4, HB⟩ := hcut
  cases kq with
  | zero => exact absurd HA.out (by simp [laws_FnExactShifted.j0])
  | succ kj8 =>
   have H := HA.out
   clear HA
   simp only [laws_FnExactShifted.j0] at H
   by_cases c50 : x33_8 = true
   ·subst c50
    have H1 : (some false) = some r := by rw [if_pos rfl] at H; exact H
    clear H
    have H := H1
    clear H1
    obtain rfl := Option.some.inj H
    go_wp2
    go_ret
    exact fin HB
   replace c50 := Bool.eq_false_iff.mpr c50
   subst c50
   have H1 : (some true) = some r := by rw [if_neg (show ¬ (false = true) by decide)] at H; exact H
   clear H
   have H := H1
   clear H1
   obtain rfl := Option.some.inj H
   go_wp2
   go_ret
   exact fin HB

end Go.Proofs.Ytndedincanmaeaa.Print
