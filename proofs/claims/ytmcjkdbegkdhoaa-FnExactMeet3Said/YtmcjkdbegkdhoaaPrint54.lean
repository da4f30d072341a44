-- Printed by a program of the session (mkprinter.py, over the kit's print); Lean checks it.
import Derived.Test.YtmcjkdbegkdhoaaPrint0
import Derived.Test.YtmcjkdbegkdhoaaPrint11
import Derived.Test.YtmcjkdbegkdhoaaPrint51
import Derived.Test.YtmcjkdbegkdhoaaPrint53
namespace Go.Proofs.Ytmcjkdbegkdhoaa.Print
open Go.RowKit Go.Proofs.YtmcjkdbegkdhoaaW.PrintWords Go.Proofs.YtmcjkdbegkdhoaaW.PrintLast Go.Proofs.YtmcjkdbegkdhoaaW.PrintMore
attribute [local go_sem] max2_int min2_int max_two min_two max_three min_three max_four min_four   -- for this text's walks alone
set_option linter.unusedVariables false
set_option linter.unusedSimpArgs false

/-! ### laws_FnExactMeet3: function 17 -/
def laws_FnExactMeet3.j0 : Nat → Bool → Option (Bool)
  | 0, _ => none
  | k + 1, x39 => if x39 = true then (some false) else (some true)
def laws_FnExactMeet3.f (k : Nat) (a0_0 : Int) (a0_1 : Int) (a0_2 : Int) (a0_3 : Int) (a1_0 : Int) (a1_1 : Int) (a1_2 : Int) (a1_3 : Int) (a2_0 : Int) (a2_1 : Int) (a2_2 : Int) (a2_3 : Int) : Option (Bool) := (laws_toPlane.f a0_0 a0_1 a0_2 a0_3).bind fun bt850 => ((laws_toPlane.f a1_0 a1_1 a1_2 a1_3).bind fun bt854 => ((laws_toPlane.f a2_0 a2_1 a2_2 a2_3).bind fun bt858 => ((spec_Meet3.f k bt850.1 bt850.2.1 bt850.2.2.1 bt850.2.2.2 bt854.1 bt854.2.1 bt854.2.2.1 bt854.2.2.2 bt858.1 bt858.2.1 bt858.2.2.1 bt858.2.2.2).bind fun bt862 => ((laws_toPlane.f a0_0 a0_1 a0_2 a0_3).bind fun bt868 => ((laws_toPlane.f a1_0 a1_1 a1_2 a1_3).bind fun bt872 => ((laws_toPlane.f a2_0 a2_1 a2_2 a2_3).bind fun bt876 => ((impl_Meet3.f k bt868.1 bt868.2.1 bt868.2.2.1 bt868.2.2.2 bt872.1 bt872.2.1 bt872.2.2.1 bt872.2.2.2 bt876.1 bt876.2.1 bt876.2.2.1 bt876.2.2.2).bind fun bt880 => ((laws_eqSpot.f bt880.1 bt880.2.1 bt880.2.2.1 bt880.2.2.2.1 bt862.1 bt862.2.1 bt862.2.2.1 bt862.2.2.2.1).bind fun t886 => (if t886 = true then (laws_FnExactMeet3.j0 k (bt880.2.2.2.2 != bt862.2.2.2.2)) else (laws_FnExactMeet3.j0 k true))))))))))
theorem laws_FnExactMeet3.mono_l : ∀ k, (∀ y0, LeO (laws_FnExactMeet3.j0 k y0) (laws_FnExactMeet3.j0 (k + 1) y0))
  | 0 => fun _ r h => by simp [laws_FnExactMeet3.j0] at h
  | k + 1 => by
    have ih0 := laws_FnExactMeet3.mono_l k
    · intro y0
      unfold laws_FnExactMeet3.j0
      repeat' first
      | (with_reducible exact ih0 _)
      | (with_reducible exact impl_Meet3.mono _ _ _ _ _ _ _ _ _ _ _ _ _)
      | (with_reducible exact spec_Meet3.mono _ _ _ _ _ _ _ _ _ _ _ _ _)
      | (with_reducible exact LeO.refl _)
      | (with_reducible exact LeO.none _)
      | (with_reducible refine LeO.ite ?_ ?_)
      | (with_reducible refine LeO.bind ?_ (fun _ => ?_))
      | exact ih0 _
      | exact impl_Meet3.mono _ _ _ _ _ _ _ _ _ _ _ _ _
      | exact spec_Meet3.mono _ _ _ _ _ _ _ _ _ _ _ _ _
      | exact LeO.none _
      | refine LeO.ite ?_ ?_
      | refine LeO.bind ?_ (fun _ => ?_)
theorem laws_FnExactMeet3.mono : ∀ a0 a1 a2 a3 a4 a5 a6 a7 a8 a9 a10 a11 k, LeO (laws_FnExactMeet3.f k a0 a1 a2 a3 a4 a5 a6 a7 a8 a9 a10 a11) (laws_FnExactMeet3.f (k + 1) a0 a1 a2 a3 a4 a5 a6 a7 a8 a9 a10 a11) := by
  intro a0 a1 a2 a3 a4 a5 a6 a7 a8 a9 a10 a11 k
  have ih0 := laws_FnExactMeet3.mono_l k
  unfold laws_FnExactMeet3.f
  repeat' first
      | (with_reducible exact ih0 _)
      | (with_reducible exact impl_Meet3.mono _ _ _ _ _ _ _ _ _ _ _ _ _)
      | (with_reducible exact spec_Meet3.mono _ _ _ _ _ _ _ _ _ _ _ _ _)
      | (with_reducible exact LeO.refl _)
      | (with_reducible exact LeO.none _)
      | (with_reducible refine LeO.ite ?_ ?_)
      | (with_reducible refine LeO.bind ?_ (fun _ => ?_))
      | exact ih0 _
      | exact impl_Meet3.mono _ _ _ _ _ _ _ _ _ _ _ _ _
      | exact spec_Meet3.mono _ _ _ _ _ _ _ _ _ _ _ _ _
      | exact LeO.none _
      | refine LeO.ite ?_ ?_
      | refine LeO.bind ?_ (fun _ => ?_)
def laws_FnExactMeet3.T1 : Bool × List (List Nat × List Nat) := (true, [([], []), ([0], [0]), ([], []), ([2, 1], [2]), ([], []), ([4, 3], [4]), ([1, 3, 5, 5], [1, 3, 5]), ([6], [6]), ([7], [7]), ([7], [7]), ([], []), ([10, 8, 6, 0, 1, 2, 3, 4, 5, 6, 7, 8, 10], [8, 10]), ([9, 11, 0, 1, 2, 3, 4, 5, 6, 7, 8, 9, 10, 11], [9])])
def laws_FnExactMeet3.B1 : List Nat := [0, 1, 0, 7, 0, 31, 63, 127, 255, 255, 0, 1535, 4095]
theorem laws_FnExactMeet3.tab1 : rtab .any (opsOf Try.f17 1) = laws_FnExactMeet3.T1 := by kernel_rfl
theorem laws_FnExactMeet3.bits1 : waitsOk laws_FnExactMeet3.T1.2 laws_FnExactMeet3.B1 = true := by kernel_rfl
def laws_FnExactMeet3.T2 : Bool × List (List Nat × List Nat) := (true, [([], []), ([0], [0]), ([], []), ([2, 1], [2]), ([], []), ([4, 3], [4]), ([1, 3, 5, 5], [1, 3, 5]), ([6], [6]), ([7], [7]), ([7], [7]), ([], []), ([10, 8, 6, 0, 1, 2, 3, 4, 5, 6, 7, 8, 10], [8, 10]), ([9, 11, 0, 1, 2, 3, 4, 5, 6, 7, 8, 9, 10, 11], [9])])
def laws_FnExactMeet3.B2 : List Nat := [0, 1, 0, 7, 0, 31, 63, 127, 255, 255, 0, 1535, 4095]
theorem laws_FnExactMeet3.tab2 : rtab .any (opsOf Try.f17 2) = laws_FnExactMeet3.T2 := by kernel_rfl
theorem laws_FnExactMeet3.bits2 : waitsOk laws_FnExactMeet3.T2.2 laws_FnExactMeet3.B2 = true := by kernel_rfl
set_option maxHeartbeats 8000000 in
set_option maxRecDepth 100000 in
theorem laws_FnExactMeet3.calls (k : Nat) (a0_0 : Int) (a0_1 : Int) (a0_2 : Int) (a0_3 : Int) (a1_0 : Int) (a1_1 : Int) (a1_2 : Int) (a1_3 : Int) (a2_0 : Int) (a2_1 : Int) (a2_2 : Int) (a2_3 : Int) (r : Bool) (w : World) (h : laws_FnExactMeet3.f k a0_0 a0_1 a0_2 a0_3 a1_0 a1_1 a1_2 a1_3 a2_0 a2_1 a2_2 a2_3 = some r) :
    Calls Try.prog 17 #[.agg #[.int .i64 a0_0, .int .i64 a0_1, .int .i64 a0_2, .int .i64 a0_3], .agg #[.int .i64 a1_0, .int .i64 a1_1, .int .i64 a1_2, .int .i64 a1_3], .agg #[.int .i64 a2_0, .int .i64 a2_1, .int .i64 a2_2, .int .i64 a2_3]] w fun e w' => e = .returned (.bool r) ∧ Below w.heap.size w w' := by
  have hu36 := Try.underlying36
  have hu32 := Try.underlying32
  have HB := Aside0.mk (Below.refl w.heap.size w)
  have H : ((laws_toPlane.f a0_0 a0_1 a0_2 a0_3).bind fun bt850 => ((laws_toPlane.f a1_0 a1_1 a1_2 a1_3).bind fun bt854 => ((laws_toPlane.f a2_0 a2_1 a2_2 a2_3).bind fun bt858 => ((spec_Meet3.f k bt850.1 bt850.2.1 bt850.2.2.1 bt850.2.2.2 bt854.1 bt854.2.1 bt854.2.2.1 bt854.2.2.2 bt858.1 bt858.2.1 bt858.2.2.1 bt858.2.2.2).bind fun bt862 => ((laws_toPlane.f a0_0 a0_1 a0_2 a0_3).bind fun bt868 => ((laws_toPlane.f a1_0 a1_1 a1_2 a1_3).bind fun bt872 => ((laws_toPlane.f a2_0 a2_1 a2_2 a2_3).bind fun bt876 => ((impl_Meet3.f k bt868.1 bt868.2.1 bt868.2.2.1 bt868.2.2.2 bt872.1 bt872.2.1 bt872.2.2.1 bt872.2.2.2 bt876.1 bt876.2.1 bt876.2.2.1 bt876.2.2.2).bind fun bt880 => ((laws_eqSpot.f bt880.1 bt880.2.1 bt880.2.2.1 bt880.2.2.2.1 bt862.1 bt862.2.1 bt862.2.2.1 bt862.2.2.2.1).bind fun t886 => (if t886 = true then (laws_FnExactMeet3.j0 k (bt880.2.2.2.2 != bt862.2.2.2.2)) else (laws_FnExactMeet3.j0 k true))))))))))) = some r := h
  clear h
  replace H := Option.bind_eq_some_iff.mp H
  obtain ⟨⟨t850, t851, t852, t853⟩, A40, H⟩ := H
  replace H : ((laws_toPlane.f a1_0 a1_1 a1_2 a1_3).bind fun bt854 => ((laws_toPlane.f a2_0 a2_1 a2_2 a2_3).bind fun bt858 => ((spec_Meet3.f k t850 t851 t852 t853 bt854.1 bt854.2.1 bt854.2.2.1 bt854.2.2.2 bt858.1 bt858.2.1 bt858.2.2.1 bt858.2.2.2).bind fun bt862 => ((laws_toPlane.f a0_0 a0_1 a0_2 a0_3).bind fun bt868 => ((laws_toPlane.f a1_0 a1_1 a1_2 a1_3).bind fun bt872 => ((laws_toPlane.f a2_0 a2_1 a2_2 a2_3).bind fun bt876 => ((impl_Meet3.f k bt868.1 bt868.2.1 bt868.2.2.1 bt868.2.2.2 bt872.1 bt872.2.1 bt872.2.2.1 bt872.2.2.2 bt876.1 bt876.2.1 bt876.2.2.1 bt876.2.2.2).bind fun bt880 => ((laws_eqSpot.f bt880.1 bt880.2.1 bt880.2.2.1 bt880.2.2.2.1 bt862.1 bt862.2.1 bt862.2.2.1 bt862.2.2.2.1).bind fun t886 => (if t886 = true then (laws_FnExactMeet3.j0 k (bt880.2.2.2.2 != bt862.2.2.2.2)) else (laws_FnExactMeet3.j0 k true)))))))))) = some r := H
  have A4 := Aside0.mk A40
  clear A40
  replace H := Option.bind_eq_some_iff.mp H
  obtain ⟨⟨t854, t855, t856, t857⟩, A50, H⟩ := H
  replace H : ((laws_toPlane.f a2_0 a2_1 a2_2 a2_3).bind fun bt858 => ((spec_Meet3.f k t850 t851 t852 t853 t854 t855 t856 t857 bt858.1 bt858.2.1 bt858.2.2.1 bt858.2.2.2).bind fun bt862 => ((laws_toPlane.f a0_0 a0_1 a0_2 a0_3).bind fun bt868 => ((laws_toPlane.f a1_0 a1_1 a1_2 a1_3).bind fun bt872 => ((laws_toPlane.f a2_0 a2_1 a2_2 a2_3).bind fun bt876 => ((impl_Meet3.f k bt868.1 bt868.2.1 bt868.2.2.1 bt868.2.2.2 bt872.1 bt872.2.1 bt872.2.2.1 bt872.2.2.2 bt876.1 bt876.2.1 bt876.2.2.1 bt876.2.2.2).bind fun bt880 => ((laws_eqSpot.f bt880.1 bt880.2.1 bt880.2.2.1 bt880.2.2.2.1 bt862.1 bt862.2.1 bt862.2.2.1 bt862.2.2.2.1).bind fun t886 => (if t886 = true then (laws_FnExactMeet3.j0 k (bt880.2.2.2.2 != bt862.2.2.2.2)) else (laws_FnExactMeet3.j0 k true))))))))) = some r := H
  have A5 := Aside0.mk A50
  clear A50
  replace H := Option.bind_eq_some_iff.mp H
  obtain ⟨⟨t858, t859, t860, t861⟩, A60, H⟩ := H
  replace H : ((spec_Meet3.f k t850 t851 t852 t853 t854 t855 t856 t857 t858 t859 t860 t861).bind fun bt862 => ((laws_toPlane.f a0_0 a0_1 a0_2 a0_3).bind fun bt868 => ((laws_toPlane.f a1_0 a1_1 a1_2 a1_3).bind fun bt872 => ((laws_toPlane.f a2_0 a2_1 a2_2 a2_3).bind fun bt876 => ((impl_Meet3.f k bt868.1 bt868.2.1 bt868.2.2.1 bt868.2.2.2 bt872.1 bt872.2.1 bt872.2.2.1 bt872.2.2.2 bt876.1 bt876.2.1 bt876.2.2.1 bt876.2.2.2).bind fun bt880 => ((laws_eqSpot.f bt880.1 bt880.2.1 bt880.2.2.1 bt880.2.2.2.1 bt862.1 bt862.2.1 bt862.2.2.1 bt862.2.2.2.1).bind fun t886 => (if t886 = true then (laws_FnExactMeet3.j0 k (bt880.2.2.2.2 != bt862.2.2.2.2)) else (laws_FnExactMeet3.j0 k true)))))))) = some r := H
  have A6 := Aside0.mk A60
  clear A60
  replace H := Option.bind_eq_some_iff.mp H
  obtain ⟨⟨t862, t863, t864, t865, t866⟩, A70, H⟩ := H
  replace H : ((laws_toPlane.f a0_0 a0_1 a0_2 a0_3).bind fun bt868 => ((laws_toPlane.f a1_0 a1_1 a1_2 a1_3).bind fun bt872 => ((laws_toPlane.f a2_0 a2_1 a2_2 a2_3).bind fun bt876 => ((impl_Meet3.f k bt868.1 bt868.2.1 bt868.2.2.1 bt868.2.2.2 bt872.1 bt872.2.1 bt872.2.2.1 bt872.2.2.2 bt876.1 bt876.2.1 bt876.2.2.1 bt876.2.2.2).bind fun bt880 => ((laws_eqSpot.f bt880.1 bt880.2.1 bt880.2.2.1 bt880.2.2.2.1 t862 t863 t864 t865).bind fun t886 => (if t886 = true then (laws_FnExactMeet3.j0 k (bt880.2.2.2.2 != t866)) else (laws_FnExactMeet3.j0 k true))))))) = some r := H
  have A7 := Aside0.mk A70
  clear A70
  replace H := Option.bind_eq_some_iff.mp H
  obtain ⟨⟨t868, t869, t870, t871⟩, A80, H⟩ := H
  replace H : ((laws_toPlane.f a1_0 a1_1 a1_2 a1_3).bind fun bt872 => ((laws_toPlane.f a2_0 a2_1 a2_2 a2_3).bind fun bt876 => ((impl_Meet3.f k t868 t869 t870 t871 bt872.1 bt872.2.1 bt872.2.2.1 bt872.2.2.2 bt876.1 bt876.2.1 bt876.2.2.1 bt876.2.2.2).bind fun bt880 => ((laws_eqSpot.f bt880.1 bt880.2.1 bt880.2.2.1 bt880.2.2.2.1 t862 t863 t864 t865).bind fun t886 => (if t886 = true then (laws_FnExactMeet3.j0 k (bt880.2.2.2.2 != t866)) else (laws_FnExactMeet3.j0 k true)))))) = some r := H
  have A8 := Aside0.mk A80
  clear A80
  replace H := Option.bind_eq_some_iff.mp H
  obtain ⟨⟨t872, t873, t874, t875⟩, A90, H⟩ := H
  replace H : ((laws_toPlane.f a2_0 a2_1 a2_2 a2_3).bind fun bt876 => ((impl_Meet3.f k t868 t869 t870 t871 t872 t873 t874 t875 bt876.1 bt876.2.1 bt876.2.2.1 bt876.2.2.2).bind fun bt880 => ((laws_eqSpot.f bt880.1 bt880.2.1 bt880.2.2.1 bt880.2.2.2.1 t862 t863 t864 t865).bind fun t886 => (if t886 = true then (laws_FnExactMeet3.j0 k (bt880.2.2.2.2 != t866)) else (laws_FnExactMeet3.j0 k true))))) = some r := H
  have A9 := Aside0.mk A90
  clear A90
  replace H := Option.bind_eq_some_iff.mp H
  obtain ⟨⟨t876, t877, t878, t879⟩, A100, H⟩ := H
  replace H : ((impl_Meet3.f k t868 t869 t870 t871 t872 t873 t874 t875 t876 t877 t878 t879).bind fun bt880 => ((laws_eqSpot.f bt880.1 bt880.2.1 bt880.2.2.1 bt880.2.2.2.1 t862 t863 t864 t865).bind fun t886 => (if t886 = true then (laws_FnExactMeet3.j0 k (bt880.2.2.2.2 != t866)) else (laws_FnExactMeet3.j0 k true)))) = some r := H
  have A10 := Aside0.mk A100
  clear A100
  replace H := Option.bind_eq_some_iff.mp H
  obtain ⟨⟨t880, t881, t882, t883, t884⟩, A110, H⟩ := H
  replace H : ((laws_eqSpot.f t880 t881 t882 t883 t862 t863 t864 t865).bind fun t886 => (if t886 = true then (laws_FnExactMeet3.j0 k (t884 != t866)) else (laws_FnExactMeet3.j0 k true))) = some r := H
  have A11 := Aside0.mk A110
  clear A110
  have HC12 := Aside0.mk H
  clear H
  go_enter Try.func17, Try.ntmps17
  try go_wp2_with (first | ((with_reducible refine gate_dst (N := 3) rfl ?_); refine box_event ?hg (N := 3) ?hd (cs := #[.int .i64 a0_0, .int .i64 a0_1, .int .i64 a0_2, .int .i64 a0_3]) (t := 36) ?hr ?_; (case hd => rfl); (case hg => rfl); (case hr => first | (go_simp; done) | (go_simp; rfl)); intro gb847 hg w13 hbox hb; have n0_ := Aside0.mk (below_step (by repeat (first | (with_reducible first | exact HB.out | apply below_alloc | apply pw_below_drewN | apply below_drew1) | exact HB.out)) hb); have n1_ := Aside0.mk (hbox); have n2_ := Aside0.mk ((by rw [hg]; exact (below_size (by repeat (first | (with_reducible first | exact HB.out | apply below_alloc | apply pw_below_drewN | apply below_drew1) | exact HB.out))) : w.heap.size ≤ gb847)); have n3_ := Aside0.mk ((by rw [hg]; exact (below_size (by repeat (first | (with_reducible first | exact HB.out | apply below_alloc | apply pw_below_drewN | apply below_drew1) | exact HB.out))) : w.heap.size ≤ gb847)); clear HB; have HB := n0_; have BK847 := n1_; have GW847 := n2_; have GE847 := n3_; clear n0_ n1_ n2_ n3_; clear hb hbox hg) | ((with_reducible refine gate_dst (N := 4) rfl ?_); refine box_event ?hg (N := 4) ?hd (cs := #[.int .i64 a1_0, .int .i64 a1_1, .int .i64 a1_2, .int .i64 a1_3]) (t := 36) ?hr ?_; (case hd => rfl); (case hg => rfl); (case hr => first | (go_simp; done) | (go_simp; rfl)); intro gb848 hg w14 hbox hb; have n0_ := Aside0.mk (blk_below (g := gb847) (o := .cells #[.int .i64 a0_0, .int .i64 a0_1, .int .i64 a0_2, .int .i64 a0_3] 36 (0, 0)) (by (with_reducible repeat (first | refine blk_drewN ?_ _ | refine blk_drew ?_ | refine blk_alloc ?_ _)); exact BK847.out) hb); have n1_ := Aside0.mk (below_step (by repeat (first | (with_reducible first | exact HB.out | apply below_alloc | apply pw_below_drewN | apply below_drew1 | refine below_set ?_ GE847.out) | exact HB.out)) hb); have n2_ := Aside0.mk (hbox); have n3_ := Aside0.mk ((by rw [hg]; exact (below_size (by repeat (first | (with_reducible first | exact HB.out | apply below_alloc | apply pw_below_drewN | apply below_drew1 | refine below_set ?_ GE847.out) | exact HB.out))) : w.heap.size ≤ gb848)); have n4_ := Aside0.mk ((by rw [hg]; exact (below_size (by repeat (first | (with_reducible first | exact HB.out | apply below_alloc | apply pw_below_drewN | apply below_drew1 | refine below_set ?_ GE847.out) | exact HB.out))) : w.heap.size ≤ gb848)); have n5_ := Aside0.mk ((by rw [hg]; exact Nat.ne_of_lt (blk_lt (g := gb847) (o := .cells #[.int .i64 a0_0, .int .i64 a0_1, .int .i64 a0_2, .int .i64 a0_3] 36 (0, 0)) (by (with_reducible repeat (first | refine blk_drewN ?_ _ | refine blk_drew ?_ | refine blk_alloc ?_ _)); exact BK847.out)) : gb847 ≠ gb848)); have n6_ := Aside0.mk ((by rw [hg]; exact Nat.ne_of_gt (blk_lt (g := gb847) (o := .cells #[.int .i64 a0_0, .int .i64 a0_1, .int .i64 a0_2, .int .i64 a0_3] 36 (0, 0)) (by (with_reducible repeat (first | refine blk_drewN ?_ _ | refine blk_drew ?_ | refine blk_alloc ?_ _)); exact BK847.out)) : gb848 ≠ gb847)); clear BK847; clear HB; have BK847 := n0_; have HB := n1_; have BK848 := n2_; have GW848 := n3_; have GE848 := n4_; have NB847_848 := n5_; have NB848_847 := n6_; clear n0_ n1_ n2_ n3_ n4_ n5_ n6_; clear hb hbox hg) | ((with_reducible refine gate_dst (N := 5) rfl ?_); refine box_event ?hg (N := 5) ?hd (cs := #[.int .i64 a2_0, .int .i64 a2_1, .int .i64 a2_2, .int .i64 a2_3]) (t := 36) ?hr ?_; (case hd => rfl); (case hg => rfl); (case hr => first | (go_simp; done) | (go_simp; rfl)); intro gb849 hg w15 hbox hb; have n0_ := Aside0.mk (blk_below (g := gb847) (o := .cells #[.int .i64 a0_0, .int .i64 a0_1, .int .i64 a0_2, .int .i64 a0_3] 36 (0, 0)) (by (with_reducible repeat (first | refine blk_drewN ?_ _ | refine blk_drew ?_ | refine blk_alloc ?_ _)); exact BK847.out) hb); have n1_ := Aside0.mk (blk_below (g := gb848) (o := .cells #[.int .i64 a1_0, .int .i64 a1_1, .int .i64 a1_2, .int .i64 a1_3] 36 (0, 0)) (by (with_reducible repeat (first | refine blk_drewN ?_ _ | refine blk_drew ?_ | refine blk_alloc ?_ _)); exact BK848.out) hb); have n2_ := Aside0.mk (below_step (by repeat (first | (with_reducible first | exact HB.out | apply below_alloc | apply pw_below_drewN | apply below_drew1 | refine below_set ?_ GE847.out | refine below_set ?_ GE848.out) | exact HB.out)) hb); have n3_ := Aside0.mk (hbox); have n4_ := Aside0.mk ((by rw [hg]; exact (below_size (by repeat (first | (with_reducible first | exact HB.out | apply below_alloc | apply pw_below_drewN | apply below_drew1 | refine below_set ?_ GE847.out | refine below_set ?_ GE848.out) | exact HB.out))) : w.heap.size ≤ gb849)); have n5_ := Aside0.mk ((by rw [hg]; exact (below_size (by repeat (first | (with_reducible first | exact HB.out | apply below_alloc | apply pw_below_drewN | apply below_drew1 | refine below_set ?_ GE847.out | refine below_set ?_ GE848.out) | exact HB.out))) : w.heap.size ≤ gb849)); have n6_ := Aside0.mk ((by rw [hg]; exact Nat.ne_of_lt (blk_lt (g := gb847) (o := .cells #[.int .i64 a0_0, .int .i64 a0_1, .int .i64 a0_2, .int .i64 a0_3] 36 (0, 0)) (by (with_reducible repeat (first | refine blk_drewN ?_ _ | refine blk_drew ?_ | refine blk_alloc ?_ _)); exact BK847.out)) : gb847 ≠ gb849)); have n7_ := Aside0.mk ((by rw [hg]; exact Nat.ne_of_gt (blk_lt (g := gb847) (o := .cells #[.int .i64 a0_0, .int .i64 a0_1, .int .i64 a0_2, .int .i64 a0_3] 36 (0, 0)) (by (with_reducible repeat (first | refine blk_drewN ?_ _ | refine blk_drew ?_ | refine blk_alloc ?_ _)); exact BK847.out)) : gb849 ≠ gb847)); have n8_ := Aside0.mk ((by rw [hg]; exact Nat.ne_of_lt (blk_lt (g := gb848) (o := .cells #[.int .i64 a1_0, .int .i64 a1_1, .int .i64 a1_2, .int .i64 a1_3] 36 (0, 0)) (by (with_reducible repeat (first | refine blk_drewN ?_ _ | refine blk_drew ?_ | refine blk_alloc ?_ _)); exact BK848.out)) : gb848 ≠ gb849)); have n9_ := Aside0.mk ((by rw [hg]; exact Nat.ne_of_gt (blk_lt (g := gb848) (o := .cells #[.int .i64 a1_0, .int .i64 a1_1, .int .i64 a1_2, .int .i64 a1_3] 36 (0, 0)) (by (with_reducible repeat (first | refine blk_drewN ?_ _ | refine blk_drew ?_ | refine blk_alloc ?_ _)); exact BK848.out)) : gb849 ≠ gb848)); clear BK847; clear BK848; clear HB; have BK847 := n0_; have BK848 := n1_; have HB := n2_; have BK849 := n3_; have GW849 := n4_; have GE849 := n5_; have NB847_849 := n6_; have NB849_847 := n7_; have NB848_849 := n8_; have NB849_848 := n9_; clear n0_ n1_ n2_ n3_ n4_ n5_ n6_ n7_ n8_ n9_; clear hb hbox hg))
  have n0_ := Aside0.mk (blk_drew BK847.out)
  have n1_ := Aside0.mk (blk_drew BK848.out)
  have n2_ := Aside0.mk (blk_drew BK849.out)
  have n3_ := Aside0.mk (below_drew1 HB.out)
  clear BK847
  clear BK848
  clear BK849
  clear HB
  have BK847 := n0_
  have BK848 := n1_
  have BK849 := n2_
  have HB := n3_
  clear n0_ n1_ n2_ n3_
  refine start_ (n := 13) (S := fun w' => True) (ds := []) #[false, false, false, false, false, false, false, false, false, false, false, false, false] (by kernel_rfl) rfl rfl trivial (fun hHeld => ?_); refine with_tabW laws_FnExactMeet3.tab1 laws_FnExactMeet3.bits1 (fun HT_ HW_ => ?_)
  generalize w15.drew = w16 at BK847 BK848 BK849 HB hHeld ⊢
  refine inv_at [0, 1, 2, 3, 4, 5, 6, 7, 8, 9, 10, 11, 12] (fun a0_ b a w' => ∃ (gb867 : Nat) (m10_ : Value), a = putSel a0_ b [(0, 12, .agg #[.int .i64 a0_0, .int .i64 a0_1, .int .i64 a0_2, .int .i64 a0_3]), (1, 13, .agg #[.int .i64 t850, .int .i64 t851, .int .i64 t852, .int .i64 t853]), (2, 14, .agg #[.int .i64 a1_0, .int .i64 a1_1, .int .i64 a1_2, .int .i64 a1_3]), (3, 15, .agg #[.int .i64 t854, .int .i64 t855, .int .i64 t856, .int .i64 t857]), (4, 16, .agg #[.int .i64 a2_0, .int .i64 a2_1, .int .i64 a2_2, .int .i64 a2_3]), (5, 17, .agg #[.int .i64 t858, .int .i64 t859, .int .i64 t860, .int .i64 t861]), (6, 18, .tuple #[.agg #[.int .i64 t862, .int .i64 t863, .int .i64 t864, .int .i64 t865], .bool t866]), (7, 11, .tuple #[.agg #[.int .i64 t862, .int .i64 t863, .int .i64 t864, .int .i64 t865], .bool t866]), (8, 19, .agg #[.int .i64 t862, .int .i64 t863, .int .i64 t864, .int .i64 t865]), (9, 20, .bool t866), (10, 7, m10_), (12, 8, .bool t866)] ∧ (w'.heap[gb847]? = some (.cells #[.int .i64 a0_0, .int .i64 a0_1, .int .i64 a0_2, .int .i64 a0_3] 36 (0, 0))) ∧ (w'.heap[gb848]? = some (.cells #[.int .i64 a1_0, .int .i64 a1_1, .int .i64 a1_2, .int .i64 a1_3] 36 (0, 0))) ∧ (w'.heap[gb849]? = some (.cells #[.int .i64 a2_0, .int .i64 a2_1, .int .i64 a2_2, .int .i64 a2_3] 36 (0, 0))) ∧ (Below w.heap.size w w') ∧ (b 10 = true → b 11 = false → w'.heap[gb867]? = some (.cells #[.int .i64 0, .int .i64 0, .int .i64 0, .int .i64 0] 32 (0, 0))) ∧ (b 10 = true → w.heap.size ≤ gb867) ∧ (b 10 = true → w.heap.size ≤ gb867) ∧ (b 10 = true → gb847 ≠ gb867) ∧ (b 10 = true → gb867 ≠ gb847) ∧ (b 10 = true → gb848 ≠ gb867) ∧ (b 10 = true → gb867 ≠ gb848) ∧ (b 10 = true → gb849 ≠ gb867) ∧ (b 10 = true → gb867 ≠ gb849) ∧ (b 11 = true → w'.heap[gb867]? = some (.cells #[.int .i64 t862, .int .i64 t863, .int .i64 t864, .int .i64 t865] 32 (0, 0))) ∧ (b 10 = true → (m10_ : Value) = .pointer (some ⟨gb867, 0, none⟩))) HT_.out HW_.out (by kernel_rfl) (by kernel_rfl) ?_ ?_ ?_
  · exact ⟨0, .bool false, by simp only [putSel, Bool.false_eq_true, if_false], BK847.out, BK848.out, BK849.out, HB.out, fun h_ => absurd h_ (by decide), fun h_ => absurd h_ (by decide), fun h_ => absurd h_ (by decide), fun h_ => absurd h_ (by decide), fun h_ => absurd h_ (by decide), fun h_ => absurd h_ (by decide), fun h_ => absurd h_ (by decide), fun h_ => absurd h_ (by decide), fun h_ => absurd h_ (by decide), fun h_ => absurd h_ (by decide), fun h_ => absurd h_ (by decide)⟩
  · skip
    clear BK847 BK848 BK849 HB
    refine steps_cons ?_ ?_
    · rintro b a w' ⟨gb867, m10_, ha, Q_BK847, Q_BK848, Q_BK849, Q_HB, Q_BK867, Q_GW867, Q_GE867, Q_NB847_867, Q_NB867_847, Q_NB848_867, Q_NB867_848, Q_NB849_867, Q_NB867_849, Q_BK867_e11, Q_X10_⟩ hb_ hon hoff
      refine ⟨_, rfl, fun K hK => ?_⟩
      have e3 : a.tmps[3]? = some (.pointer (some ⟨gb847, 0, none⟩)) := by rw [ha]; exact (putSel_off rfl).trans rfl
      replace ha := Aside0.mk ha
      have BK847 := Aside0.mk Q_BK847
      have BK848 := Aside0.mk Q_BK848
      have BK849 := Aside0.mk Q_BK849
      have HB := Aside0.mk Q_HB
      have hc0_ : w'.cell? ⟨gb847, 0, none⟩ = some (.int .i64 a0_0) := (blk_cell BK847.out 0).trans rfl
      have hc1_ : w'.cell? ⟨gb847, 1, none⟩ = some (.int .i64 a0_1) := (blk_cell BK847.out 1).trans rfl
      have hc2_ : w'.cell? ⟨gb847, 2, none⟩ = some (.int .i64 a0_2) := (blk_cell BK847.out 2).trans rfl
      have hc3_ : w'.cell? ⟨gb847, 3, none⟩ = some (.int .i64 a0_3) := (blk_cell BK847.out 3).trans rfl
      refine value_ (w1 := w') (v := .agg #[.int .i64 a0_0, .int .i64 a0_1, .int .i64 a0_2, .int .i64 a0_3]) (by rfl) rfl ?_ ?_
      · go_simp
        (try simp only [i64_w])
        try rfl
      refine hK.out _ _ ⟨gb867, m10_, (by rw [ha.out]; exact putSel_upk 0 hb_ rfl rfl rfl), Q_BK847, Q_BK848, Q_BK849, Q_HB, Q_BK867, Q_GW867, Q_GE867, Q_NB847_867, Q_NB867_847, Q_NB848_867, Q_NB867_848, Q_NB849_867, Q_NB867_849, fun h0_ => absurd ((hoff 11 (by kernel_rfl)).symm.trans h0_) (by decide), Q_X10_⟩
    refine steps_cons ?_ ?_
    · rintro b a w' ⟨gb867, m10_, ha, Q_BK847, Q_BK848, Q_BK849, Q_HB, Q_BK867, Q_GW867, Q_GE867, Q_NB847_867, Q_NB867_847, Q_NB848_867, Q_NB867_848, Q_NB849_867, Q_NB867_849, Q_BK867_e11, Q_X10_⟩ hb_ hon hoff
      refine ⟨_, rfl, fun K hK => ?_⟩
      have e12 : a.tmps[12]? = some (.agg #[.int .i64 a0_0, .int .i64 a0_1, .int .i64 a0_2, .int .i64 a0_3]) := by rw [ha]; exact putSel_on (e := (0, 12, .agg #[.int .i64 a0_0, .int .i64 a0_1, .int .i64 a0_2, .int .i64 a0_3])) 0 rfl rfl (hon 0 (by kernel_rfl)) rfl
      replace ha := Aside0.mk ha
      have BK847 := Aside0.mk Q_BK847
      have BK848 := Aside0.mk Q_BK848
      have BK849 := Aside0.mk Q_BK849
      have HB := Aside0.mk Q_HB
      refine goes_ Try.func36 (by kernel_rfl) rfl #[.agg #[.int .i64 a0_0, .int .i64 a0_1, .int .i64 a0_2, .int .i64 a0_3]] (by rfl) rfl rfl (by first | (simp only [List.map_toArray, List.map_cons, List.map_nil, Act.eval, Array.getD_eq_getD_getElem?, Option.getD_some, e12]; done) | (simp only [List.map_toArray, List.map_cons, List.map_nil, Act.eval, Array.getD_eq_getD_getElem?, Option.getD_some, e12]; rfl)) ?_
      with_reducible refine (laws_toPlane.calls a0_0 a0_1 a0_2 a0_3 t850 t851 t852 t853 _ A4.out).mono ?_
      rintro e w17 ⟨rfl, hb⟩
      refine ⟨_, rfl, ?_⟩
      have n0_ := Aside0.mk (blk_below (g := gb847) (o := .cells #[.int .i64 a0_0, .int .i64 a0_1, .int .i64 a0_2, .int .i64 a0_3] 36 (0, 0)) (by (with_reducible repeat (first | refine blk_drewN ?_ _ | refine blk_drew ?_ | refine blk_alloc ?_ _)); exact BK847.out) hb)
      have n1_ := Aside0.mk (blk_below (g := gb848) (o := .cells #[.int .i64 a1_0, .int .i64 a1_1, .int .i64 a1_2, .int .i64 a1_3] 36 (0, 0)) (by (with_reducible repeat (first | refine blk_drewN ?_ _ | refine blk_drew ?_ | refine blk_alloc ?_ _)); exact BK848.out) hb)
      have n2_ := Aside0.mk (blk_below (g := gb849) (o := .cells #[.int .i64 a2_0, .int .i64 a2_1, .int .i64 a2_2, .int .i64 a2_3] 36 (0, 0)) (by (with_reducible repeat (first | refine blk_drewN ?_ _ | refine blk_drew ?_ | refine blk_alloc ?_ _)); exact BK849.out) hb)
      have n3_ := Aside0.mk (below_step (by repeat (first | (with_reducible first | exact HB.out | apply below_alloc | apply pw_below_drewN | apply below_drew1 | refine below_set ?_ GE847.out | refine below_set ?_ GE848.out | refine below_set ?_ GE849.out) | exact HB.out)) hb)
      have z_BK867 := fun (h0_ : b 10 = true) (h1_ : b 11 = false) => (show w17.heap[gb867]? = some (.cells #[.int .i64 0, .int .i64 0, .int .i64 0, .int .i64 0] 32 (0, 0)) from by first | exact (blk_below (g := gb867) (o := .cells #[.int .i64 0, .int .i64 0, .int .i64 0, .int .i64 0] 32 (0, 0)) (by (with_reducible repeat (first | refine blk_drewN ?_ _ | refine blk_drew ?_ | refine blk_alloc ?_ _)); exact (Q_BK867 h0_ h1_)) hb))
      clear BK847
      clear BK848
      clear BK849
      clear HB
      have BK847 := n0_
      have BK848 := n1_
      have BK849 := n2_
      have HB := n3_
      clear n0_ n1_ n2_ n3_
      (try clear hb)
      (try clear hb2)
      (try clear hk)
      (try clear hi)
      refine hK.out _ _ ⟨gb867, m10_, (by rw [ha.out]; exact putSel_upk 1 hb_ rfl rfl rfl), (by (with_reducible repeat (first | refine blk_drewN ?_ _ | refine blk_drew ?_ | refine blk_alloc ?_ _)); exact BK847.out), (by (with_reducible repeat (first | refine blk_drewN ?_ _ | refine blk_drew ?_ | refine blk_alloc ?_ _)); exact BK848.out), (by (with_reducible repeat (first | refine blk_drewN ?_ _ | refine blk_drew ?_ | refine blk_alloc ?_ _)); exact BK849.out), (by repeat (first | (with_reducible first | exact HB.out | apply below_alloc | apply pw_below_drewN | apply below_drew1 | refine below_set ?_ GE847.out | refine below_set ?_ GE848.out | refine below_set ?_ GE849.out) | exact HB.out)), z_BK867, Q_GW867, Q_GE867, Q_NB847_867, Q_NB867_847, Q_NB848_867, Q_NB867_848, Q_NB849_867, Q_NB867_849, fun h0_ => absurd ((hoff 11 (by kernel_rfl)).symm.trans h0_) (by decide), Q_X10_⟩
    refine steps_cons ?_ ?_
    · rintro b a w' ⟨gb867, m10_, ha, Q_BK847, Q_BK848, Q_BK849, Q_HB, Q_BK867, Q_GW867, Q_GE867, Q_NB847_867, Q_NB867_847, Q_NB848_867, Q_NB867_848, Q_NB849_867, Q_NB867_849, Q_BK867_e11, Q_X10_⟩ hb_ hon hoff
      refine ⟨_, rfl, fun K hK => ?_⟩
      have e4 : a.tmps[4]? = some (.pointer (some ⟨gb848, 0, none⟩)) := by rw [ha]; exact (putSel_off rfl).trans rfl
      replace ha := Aside0.mk ha
      have BK847 := Aside0.mk Q_BK847
      have BK848 := Aside0.mk Q_BK848
      have BK849 := Aside0.mk Q_BK849
      have HB := Aside0.mk Q_HB
      have hc0_ : w'.cell? ⟨gb848, 0, none⟩ = some (.int .i64 a1_0) := (blk_cell BK848.out 0).trans rfl
      have hc1_ : w'.cell? ⟨gb848, 1, none⟩ = some (.int .i64 a1_1) := (blk_cell BK848.out 1).trans rfl
      have hc2_ : w'.cell? ⟨gb848, 2, none⟩ = some (.int .i64 a1_2) := (blk_cell BK848.out 2).trans rfl
      have hc3_ : w'.cell? ⟨gb848, 3, none⟩ = some (.int .i64 a1_3) := (blk_cell BK848.out 3).trans rfl
      refine value_ (w1 := w') (v := .agg #[.int .i64 a1_0, .int .i64 a1_1, .int .i64 a1_2, .int .i64 a1_3]) (by rfl) rfl ?_ ?_
      · go_simp
        (try simp only [i64_w])
        try rfl
      refine hK.out _ _ ⟨gb867, m10_, (by rw [ha.out]; exact putSel_upk 2 hb_ rfl rfl rfl), Q_BK847, Q_BK848, Q_BK849, Q_HB, Q_BK867, Q_GW867, Q_GE867, Q_NB847_867, Q_NB867_847, Q_NB848_867, Q_NB867_848, Q_NB849_867, Q_NB867_849, fun h0_ => absurd ((hoff 11 (by kernel_rfl)).symm.trans h0_) (by decide), Q_X10_⟩
    refine steps_cons ?_ ?_
    · rintro b a w' ⟨gb867, m10_, ha, Q_BK847, Q_BK848, Q_BK849, Q_HB, Q_BK867, Q_GW867, Q_GE867, Q_NB847_867, Q_NB867_847, Q_NB848_867, Q_NB867_848, Q_NB849_867, Q_NB867_849, Q_BK867_e11, Q_X10_⟩ hb_ hon hoff
      refine ⟨_, rfl, fun K hK => ?_⟩
      have e14 : a.tmps[14]? = some (.agg #[.int .i64 a1_0, .int .i64 a1_1, .int .i64 a1_2, .int .i64 a1_3]) := by rw [ha]; exact putSel_on (e := (2, 14, .agg #[.int .i64 a1_0, .int .i64 a1_1, .int .i64 a1_2, .int .i64 a1_3])) 2 rfl rfl (hon 2 (by kernel_rfl)) rfl
      replace ha := Aside0.mk ha
      have BK847 := Aside0.mk Q_BK847
      have BK848 := Aside0.mk Q_BK848
      have BK849 := Aside0.mk Q_BK849
      have HB := Aside0.mk Q_HB
      refine goes_ Try.func36 (by kernel_rfl) rfl #[.agg #[.int .i64 a1_0, .int .i64 a1_1, .int .i64 a1_2, .int .i64 a1_3]] (by rfl) rfl rfl (by first | (simp only [List.map_toArray, List.map_cons, List.map_nil, Act.eval, Array.getD_eq_getD_getElem?, Option.getD_some, e14]; done) | (simp only [List.map_toArray, List.map_cons, List.map_nil, Act.eval, Array.getD_eq_getD_getElem?, Option.getD_some, e14]; rfl)) ?_
      with_reducible refine (laws_toPlane.calls a1_0 a1_1 a1_2 a1_3 t854 t855 t856 t857 _ A5.out).mono ?_
      rintro e w19 ⟨rfl, hb⟩
      refine ⟨_, rfl, ?_⟩
      have n0_ := Aside0.mk (blk_below (g := gb847) (o := .cells #[.int .i64 a0_0, .int .i64 a0_1, .int .i64 a0_2, .int .i64 a0_3] 36 (0, 0)) (by (with_reducible repeat (first | refine blk_drewN ?_ _ | refine blk_drew ?_ | refine blk_alloc ?_ _)); exact BK847.out) hb)
      have n1_ := Aside0.mk (blk_below (g := gb848) (o := .cells #[.int .i64 a1_0, .int .i64 a1_1, .int .i64 a1_2, .int .i64 a1_3] 36 (0, 0)) (by (with_reducible repeat (first | refine blk_drewN ?_ _ | refine blk_drew ?_ | refine blk_alloc ?_ _)); exact BK848.out) hb)
      have n2_ := Aside0.mk (blk_below (g := gb849) (o := .cells #[.int .i64 a2_0, .int .i64 a2_1, .int .i64 a2_2, .int .i64 a2_3] 36 (0, 0)) (by (with_reducible repeat (first | refine blk_drewN ?_ _ | refine blk_drew ?_ | refine blk_alloc ?_ _)); exact BK849.out) hb)
      have n3_ := Aside0.mk (below_step (by repeat (first | (with_reducible first | exact HB.out | apply below_alloc | apply pw_below_drewN | apply below_drew1 | refine below_set ?_ GE847.out | refine below_set ?_ GE848.out | refine below_set ?_ GE849.out) | exact HB.out)) hb)
      have z_BK867 := fun (h0_ : b 10 = true) (h1_ : b 11 = false) => (show w19.heap[gb867]? = some (.cells #[.int .i64 0, .int .i64 0, .int .i64 0, .int .i64 0] 32 (0, 0)) from by first | exact (blk_below (g := gb867) (o := .cells #[.int .i64 0, .int .i64 0, .int .i64 0, .int .i64 0] 32 (0, 0)) (by (with_reducible repeat (first | refine blk_drewN ?_ _ | refine blk_drew ?_ | refine blk_alloc ?_ _)); exact (Q_BK867 h0_ h1_)) hb))
      clear BK847
      clear BK848
      clear BK849
      clear HB
      have BK847 := n0_
      have BK848 := n1_
      have BK849 := n2_
      have HB := n3_
      clear n0_ n1_ n2_ n3_
      (try clear hb)
      (try clear hb2)
      (try clear hk)
      (try clear hi)
      refine hK.out _ _ ⟨gb867, m10_, (by rw [ha.out]; exact putSel_upk 3 hb_ rfl rfl rfl), (by (with_reducible repeat (first | refine blk_drewN ?_ _ | refine blk_drew ?_ | refine blk_alloc ?_ _)); exact BK847.out), (by (with_reducible repeat (first | refine blk_drewN ?_ _ | refine blk_drew ?_ | refine blk_alloc ?_ _)); exact BK848.out), (by (with_reducible repeat (first | refine blk_drewN ?_ _ | refine blk_drew ?_ | refine blk_alloc ?_ _)); exact BK849.out), (by repeat (first | (with_reducible first | exact HB.out | apply below_alloc | apply pw_below_drewN | apply below_drew1 | refine below_set ?_ GE847.out | refine below_set ?_ GE848.out | refine below_set ?_ GE849.out) | exact HB.out)), z_BK867, Q_GW867, Q_GE867, Q_NB847_867, Q_NB867_847, Q_NB848_867, Q_NB867_848, Q_NB849_867, Q_NB867_849, fun h0_ => absurd ((hoff 11 (by kernel_rfl)).symm.trans h0_) (by decide), Q_X10_⟩
    refine steps_cons ?_ ?_
    · rintro b a w' ⟨gb867, m10_, ha, Q_BK847, Q_BK848, Q_BK849, Q_HB, Q_BK867, Q_GW867, Q_GE867, Q_NB847_867, Q_NB867_847, Q_NB848_867, Q_NB867_848, Q_NB849_867, Q_NB867_849, Q_BK867_e11, Q_X10_⟩ hb_ hon hoff
      refine ⟨_, rfl, fun K hK => ?_⟩
      have e5 : a.tmps[5]? = some (.pointer (some ⟨gb849, 0, none⟩)) := by rw [ha]; exact (putSel_off rfl).trans rfl
      replace ha := Aside0.mk ha
      have BK847 := Aside0.mk Q_BK847
      have BK848 := Aside0.mk Q_BK848
      have BK849 := Aside0.mk Q_BK849
      have HB := Aside0.mk Q_HB
      have hc0_ : w'.cell? ⟨gb849, 0, none⟩ = some (.int .i64 a2_0) := (blk_cell BK849.out 0).trans rfl
      have hc1_ : w'.cell? ⟨gb849, 1, none⟩ = some (.int .i64 a2_1) := (blk_cell BK849.out 1).trans rfl
      have hc2_ : w'.cell? ⟨gb849, 2, none⟩ = some (.int .i64 a2_2) := (blk_cell BK849.out 2).trans rfl
      have hc3_ : w'.cell? ⟨gb849, 3, none⟩ = some (.int .i64 a2_3) := (blk_cell BK849.out 3).trans rfl
      refine value_ (w1 := w') (v := .agg #[.int .i64 a2_0, .int .i64 a2_1, .int .i64 a2_2, .int .i64 a2_3]) (by rfl) rfl ?_ ?_
      · go_simp
        (try simp only [i64_w])
        try rfl
      refine hK.out _ _ ⟨gb867, m10_, (by rw [ha.out]; exact putSel_upk 4 hb_ rfl rfl rfl), Q_BK847, Q_BK848, Q_BK849, Q_HB, Q_BK867, Q_GW867, Q_GE867, Q_NB847_867, Q_NB867_847, Q_NB848_867, Q_NB867_848, Q_NB849_867, Q_NB867_849, fun h0_ => absurd ((hoff 11 (by kernel_rfl)).symm.trans h0_) (by decide), Q_X10_⟩
    refine steps_cons ?_ ?_
    · rintro b a w' ⟨gb867, m10_, ha, Q_BK847, Q_BK848, Q_BK849, Q_HB, Q_BK867, Q_GW867, Q_GE867, Q_NB847_867, Q_NB867_847, Q_NB848_867, Q_NB867_848, Q_NB849_867, Q_NB867_849, Q_BK867_e11, Q_X10_⟩ hb_ hon hoff
      refine ⟨_, rfl, fun K hK => ?_⟩
      have e16 : a.tmps[16]? = some (.agg #[.int .i64 a2_0, .int .i64 a2_1, .int .i64 a2_2, .int .i64 a2_3]) := by rw [ha]; exact putSel_on (e := (4, 16, .agg #[.int .i64 a2_0, .int .i64 a2_1, .int .i64 a2_2, .int .i64 a2_3])) 4 rfl rfl (hon 4 (by kernel_rfl)) rfl
      replace ha := Aside0.mk ha
      have BK847 := Aside0.mk Q_BK847
      have BK848 := Aside0.mk Q_BK848
      have BK849 := Aside0.mk Q_BK849
      have HB := Aside0.mk Q_HB
      refine goes_ Try.func36 (by kernel_rfl) rfl #[.agg #[.int .i64 a2_0, .int .i64 a2_1, .int .i64 a2_2, .int .i64 a2_3]] (by rfl) rfl rfl (by first | (simp only [List.map_toArray, List.map_cons, List.map_nil, Act.eval, Array.getD_eq_getD_getElem?, Option.getD_some, e16]; done) | (simp only [List.map_toArray, List.map_cons, List.map_nil, Act.eval, Array.getD_eq_getD_getElem?, Option.getD_some, e16]; rfl)) ?_
      with_reducible refine (laws_toPlane.calls a2_0 a2_1 a2_2 a2_3 t858 t859 t860 t861 _ A6.out).mono ?_
      rintro e w20 ⟨rfl, hb⟩
      refine ⟨_, rfl, ?_⟩
      have n0_ := Aside0.mk (blk_below (g := gb847) (o := .cells #[.int .i64 a0_0, .int .i64 a0_1, .int .i64 a0_2, .int .i64 a0_3] 36 (0, 0)) (by (with_reducible repeat (first | refine blk_drewN ?_ _ | refine blk_drew ?_ | refine blk_alloc ?_ _)); exact BK847.out) hb)
      have n1_ := Aside0.mk (blk_below (g := gb848) (o := .cells #[.int .i64 a1_0, .int .i64 a1_1, .int .i64 a1_2, .int .i64 a1_3] 36 (0, 0)) (by (with_reducible repeat (first | refine blk_drewN ?_ _ | refine blk_drew ?_ | refine blk_alloc ?_ _)); exact BK848.out) hb)
      have n2_ := Aside0.mk (blk_below (g := gb849) (o := .cells #[.int .i64 a2_0, .int .i64 a2_1, .int .i64 a2_2, .int .i64 a2_3] 36 (0, 0)) (by (with_reducible repeat (first | refine blk_drewN ?_ _ | refine blk_drew ?_ | refine blk_alloc ?_ _)); exact BK849.out) hb)
      have n3_ := Aside0.mk (below_step (by repeat (first | (with_reducible first | exact HB.out | apply below_alloc | apply pw_below_drewN | apply below_drew1 | refine below_set ?_ GE847.out | refine below_set ?_ GE848.out | refine below_set ?_ GE849.out) | exact HB.out)) hb)
      have z_BK867 := fun (h0_ : b 10 = true) (h1_ : b 11 = false) => (show w20.heap[gb867]? = some (.cells #[.int .i64 0, .int .i64 0, .int .i64 0, .int .i64 0] 32 (0, 0)) from by first | exact (blk_below (g := gb867) (o := .cells #[.int .i64 0, .int .i64 0, .int .i64 0, .int .i64 0] 32 (0, 0)) (by (with_reducible repeat (first | refine blk_drewN ?_ _ | refine blk_drew ?_ | refine blk_alloc ?_ _)); exact (Q_BK867 h0_ h1_)) hb))
      clear BK847
      clear BK848
      clear BK849
      clear HB
      have BK847 := n0_
      have BK848 := n1_
      have BK849 := n2_
      have HB := n3_
      clear n0_ n1_ n2_ n3_
      (try clear hb)
      (try clear hb2)
      (try clear hk)
      (try clear hi)
      refine hK.out _ _ ⟨gb867, m10_, (by rw [ha.out]; exact putSel_upk 5 hb_ rfl rfl rfl), (by (with_reducible repeat (first | refine blk_drewN ?_ _ | refine blk_drew ?_ | refine blk_alloc ?_ _)); exact BK847.out), (by (with_reducible repeat (first | refine blk_drewN ?_ _ | refine blk_drew ?_ | refine blk_alloc ?_ _)); exact BK848.out), (by (with_reducible repeat (first | refine blk_drewN ?_ _ | refine blk_drew ?_ | refine blk_alloc ?_ _)); exact BK849.out), (by repeat (first | (with_reducible first | exact HB.out | apply below_alloc | apply pw_below_drewN | apply below_drew1 | refine below_set ?_ GE847.out | refine below_set ?_ GE848.out | refine below_set ?_ GE849.out) | exact HB.out)), z_BK867, Q_GW867, Q_GE867, Q_NB847_867, Q_NB867_847, Q_NB848_867, Q_NB867_848, Q_NB849_867, Q_NB867_849, fun h0_ => absurd ((hoff 11 (by kernel_rfl)).symm.trans h0_) (by decide), Q_X10_⟩
    refine steps_cons ?_ ?_
    · rintro b a w' ⟨gb867, m10_, ha, Q_BK847, Q_BK848, Q_BK849, Q_HB, Q_BK867, Q_GW867, Q_GE867, Q_NB847_867, Q_NB867_847, Q_NB848_867, Q_NB867_848, Q_NB849_867, Q_NB867_849, Q_BK867_e11, Q_X10_⟩ hb_ hon hoff
      refine ⟨_, rfl, fun K hK => ?_⟩
      have e13 : a.tmps[13]? = some (.agg #[.int .i64 t850, .int .i64 t851, .int .i64 t852, .int .i64 t853]) := by rw [ha]; exact putSel_on (e := (1, 13, .agg #[.int .i64 t850, .int .i64 t851, .int .i64 t852, .int .i64 t853])) 1 rfl rfl (hon 1 (by kernel_rfl)) rfl
      have e15 : a.tmps[15]? = some (.agg #[.int .i64 t854, .int .i64 t855, .int .i64 t856, .int .i64 t857]) := by rw [ha]; exact putSel_on (e := (3, 15, .agg #[.int .i64 t854, .int .i64 t855, .int .i64 t856, .int .i64 t857])) 3 rfl rfl (hon 3 (by kernel_rfl)) rfl
      have e17 : a.tmps[17]? = some (.agg #[.int .i64 t858, .int .i64 t859, .int .i64 t860, .int .i64 t861]) := by rw [ha]; exact putSel_on (e := (5, 17, .agg #[.int .i64 t858, .int .i64 t859, .int .i64 t860, .int .i64 t861])) 5 rfl rfl (hon 5 (by kernel_rfl)) rfl
      replace ha := Aside0.mk ha
      have BK847 := Aside0.mk Q_BK847
      have BK848 := Aside0.mk Q_BK848
      have BK849 := Aside0.mk Q_BK849
      have HB := Aside0.mk Q_HB
      refine goes_ Try.func63 (by kernel_rfl) rfl #[.agg #[.int .i64 t850, .int .i64 t851, .int .i64 t852, .int .i64 t853], .agg #[.int .i64 t854, .int .i64 t855, .int .i64 t856, .int .i64 t857], .agg #[.int .i64 t858, .int .i64 t859, .int .i64 t860, .int .i64 t861]] (by rfl) rfl rfl (by first | (simp only [List.map_toArray, List.map_cons, List.map_nil, Act.eval, Array.getD_eq_getD_getElem?, Option.getD_some, e13, e15, e17]; done) | (simp only [List.map_toArray, List.map_cons, List.map_nil, Act.eval, Array.getD_eq_getD_getElem?, Option.getD_some, e13, e15, e17]; rfl)) ?_
      with_reducible refine (spec_Meet3.calls k t850 t851 t852 t853 t854 t855 t856 t857 t858 t859 t860 t861 t862 t863 t864 t865 t866 _ A7.out).mono ?_
      rintro e w21 ⟨rfl, hb⟩
      refine ⟨_, rfl, ?_⟩
      have n0_ := Aside0.mk (blk_below (g := gb847) (o := .cells #[.int .i64 a0_0, .int .i64 a0_1, .int .i64 a0_2, .int .i64 a0_3] 36 (0, 0)) (by (with_reducible repeat (first | refine blk_drewN ?_ _ | refine blk_drew ?_ | refine blk_alloc ?_ _)); exact BK847.out) hb)
      have n1_ := Aside0.mk (blk_below (g := gb848) (o := .cells #[.int .i64 a1_0, .int .i64 a1_1, .int .i64 a1_2, .int .i64 a1_3] 36 (0, 0)) (by (with_reducible repeat (first | refine blk_drewN ?_ _ | refine blk_drew ?_ | refine blk_alloc ?_ _)); exact BK848.out) hb)
      have n2_ := Aside0.mk (blk_below (g := gb849) (o := .cells #[.int .i64 a2_0, .int .i64 a2_1, .int .i64 a2_2, .int .i64 a2_3] 36 (0, 0)) (by (with_reducible repeat (first | refine blk_drewN ?_ _ | refine blk_drew ?_ | refine blk_alloc ?_ _)); exact BK849.out) hb)
      have n3_ := Aside0.mk (below_step (by repeat (first | (with_reducible first | exact HB.out | apply below_alloc | apply pw_below_drewN | apply below_drew1 | refine below_set ?_ GE847.out | refine below_set ?_ GE848.out | refine below_set ?_ GE849.out) | exact HB.out)) hb)
      have z_BK867 := fun (h0_ : b 10 = true) (h1_ : b 11 = false) => (show w21.heap[gb867]? = some (.cells #[.int .i64 0, .int .i64 0, .int .i64 0, .int .i64 0] 32 (0, 0)) from by first | exact (blk_below (g := gb867) (o := .cells #[.int .i64 0, .int .i64 0, .int .i64 0, .int .i64 0] 32 (0, 0)) (by (with_reducible repeat (first | refine blk_drewN ?_ _ | refine blk_drew ?_ | refine blk_alloc ?_ _)); exact (Q_BK867 h0_ h1_)) hb))
      clear BK847
      clear BK848
      clear BK849
      clear HB
      have BK847 := n0_
      have BK848 := n1_
      have BK849 := n2_
      have HB := n3_
      clear n0_ n1_ n2_ n3_
      (try clear hb)
      (try clear hb2)
      (try clear hk)
      (try clear hi)
      refine hK.out _ _ ⟨gb867, m10_, (by rw [ha.out]; exact putSel_upk 6 hb_ rfl rfl rfl), (by (with_reducible repeat (first | refine blk_drewN ?_ _ | refine blk_drew ?_ | refine blk_alloc ?_ _)); exact BK847.out), (by (with_reducible repeat (first | refine blk_drewN ?_ _ | refine blk_drew ?_ | refine blk_alloc ?_ _)); exact BK848.out), (by (with_reducible repeat (first | refine blk_drewN ?_ _ | refine blk_drew ?_ | refine blk_alloc ?_ _)); exact BK849.out), (by repeat (first | (with_reducible first | exact HB.out | apply below_alloc | apply pw_below_drewN | apply below_drew1 | refine below_set ?_ GE847.out | refine below_set ?_ GE848.out | refine below_set ?_ GE849.out) | exact HB.out)), z_BK867, Q_GW867, Q_GE867, Q_NB847_867, Q_NB867_847, Q_NB848_867, Q_NB867_848, Q_NB849_867, Q_NB867_849, fun h0_ => absurd ((hoff 11 (by kernel_rfl)).symm.trans h0_) (by decide), Q_X10_⟩
    refine steps_cons ?_ ?_
    · rintro b a w' ⟨gb867, m10_, ha, Q_BK847, Q_BK848, Q_BK849, Q_HB, Q_BK867, Q_GW867, Q_GE867, Q_NB847_867, Q_NB867_847, Q_NB848_867, Q_NB867_848, Q_NB849_867, Q_NB867_849, Q_BK867_e11, Q_X10_⟩ hb_ hon hoff
      refine ⟨_, rfl, fun K hK => ?_⟩
      have e18 : a.tmps[18]? = some (.tuple #[.agg #[.int .i64 t862, .int .i64 t863, .int .i64 t864, .int .i64 t865], .bool t866]) := by rw [ha]; exact putSel_on (e := (6, 18, .tuple #[.agg #[.int .i64 t862, .int .i64 t863, .int .i64 t864, .int .i64 t865], .bool t866])) 6 rfl rfl (hon 6 (by kernel_rfl)) rfl
      replace ha := Aside0.mk ha
      have BK847 := Aside0.mk Q_BK847
      have BK848 := Aside0.mk Q_BK848
      have BK849 := Aside0.mk Q_BK849
      have HB := Aside0.mk Q_HB
      refine value_ (w1 := w') (v := .tuple #[.agg #[.int .i64 t862, .int .i64 t863, .int .i64 t864, .int .i64 t865], .bool t866]) (by rfl) rfl ?_ ?_
      · go_simp
        (try simp only [i64_w])
        try rfl
      refine hK.out _ _ ⟨gb867, m10_, (by rw [ha.out]; exact putSel_upk 7 hb_ rfl rfl rfl), Q_BK847, Q_BK848, Q_BK849, Q_HB, Q_BK867, Q_GW867, Q_GE867, Q_NB847_867, Q_NB867_847, Q_NB848_867, Q_NB867_848, Q_NB849_867, Q_NB867_849, fun h0_ => absurd ((hoff 11 (by kernel_rfl)).symm.trans h0_) (by decide), Q_X10_⟩
    refine steps_cons ?_ ?_
    · rintro b a w' ⟨gb867, m10_, ha, Q_BK847, Q_BK848, Q_BK849, Q_HB, Q_BK867, Q_GW867, Q_GE867, Q_NB847_867, Q_NB867_847, Q_NB848_867, Q_NB867_848, Q_NB849_867, Q_NB867_849, Q_BK867_e11, Q_X10_⟩ hb_ hon hoff
      refine ⟨_, rfl, fun K hK => ?_⟩
      have e11 : a.tmps[11]? = some (.tuple #[.agg #[.int .i64 t862, .int .i64 t863, .int .i64 t864, .int .i64 t865], .bool t866]) := by rw [ha]; exact putSel_on (e := (7, 11, .tuple #[.agg #[.int .i64 t862, .int .i64 t863, .int .i64 t864, .int .i64 t865], .bool t866])) 7 rfl rfl (hon 7 (by kernel_rfl)) rfl
      replace ha := Aside0.mk ha
      have BK847 := Aside0.mk Q_BK847
      have BK848 := Aside0.mk Q_BK848
      have BK849 := Aside0.mk Q_BK849
      have HB := Aside0.mk Q_HB
      refine value_ (w1 := w') (v := .agg #[.int .i64 t862, .int .i64 t863, .int .i64 t864, .int .i64 t865]) (by rfl) rfl ?_ ?_
      · go_simp
        (try simp only [i64_w])
        try rfl
      refine hK.out _ _ ⟨gb867, m10_, (by rw [ha.out]; exact putSel_upk 8 hb_ rfl rfl rfl), Q_BK847, Q_BK848, Q_BK849, Q_HB, Q_BK867, Q_GW867, Q_GE867, Q_NB847_867, Q_NB867_847, Q_NB848_867, Q_NB867_848, Q_NB849_867, Q_NB867_849, fun h0_ => absurd ((hoff 11 (by kernel_rfl)).symm.trans h0_) (by decide), Q_X10_⟩
    refine steps_cons ?_ ?_
    · rintro b a w' ⟨gb867, m10_, ha, Q_BK847, Q_BK848, Q_BK849, Q_HB, Q_BK867, Q_GW867, Q_GE867, Q_NB847_867, Q_NB867_847, Q_NB848_867, Q_NB867_848, Q_NB849_867, Q_NB867_849, Q_BK867_e11, Q_X10_⟩ hb_ hon hoff
      refine ⟨_, rfl, fun K hK => ?_⟩
      have e11 : a.tmps[11]? = some (.tuple #[.agg #[.int .i64 t862, .int .i64 t863, .int .i64 t864, .int .i64 t865], .bool t866]) := by rw [ha]; exact putSel_on (e := (7, 11, .tuple #[.agg #[.int .i64 t862, .int .i64 t863, .int .i64 t864, .int .i64 t865], .bool t866])) 7 rfl rfl (hon 7 (by kernel_rfl)) rfl
      replace ha := Aside0.mk ha
      have BK847 := Aside0.mk Q_BK847
      have BK848 := Aside0.mk Q_BK848
      have BK849 := Aside0.mk Q_BK849
      have HB := Aside0.mk Q_HB
      refine value_ (w1 := w') (v := .bool t866) (by rfl) rfl ?_ ?_
      · go_simp
        (try simp only [i64_w])
        try rfl
      refine hK.out _ _ ⟨gb867, m10_, (by rw [ha.out]; exact putSel_upk 9 hb_ rfl rfl rfl), Q_BK847, Q_BK848, Q_BK849, Q_HB, Q_BK867, Q_GW867, Q_GE867, Q_NB847_867, Q_NB867_847, Q_NB848_867, Q_NB867_848, Q_NB849_867, Q_NB867_849, Q_BK867_e11, Q_X10_⟩
    refine steps_cons ?_ ?_
    · rintro b a w' ⟨gb867, m10_, ha, Q_BK847, Q_BK848, Q_BK849, Q_HB, Q_BK867, Q_GW867, Q_GE867, Q_NB847_867, Q_NB867_847, Q_NB848_867, Q_NB867_848, Q_NB849_867, Q_NB867_849, Q_BK867_e11, Q_X10_⟩ hb_ hon hoff
      refine ⟨_, rfl, fun K hK => ?_⟩
      replace ha := Aside0.mk ha
      have BK847 := Aside0.mk Q_BK847
      have BK848 := Aside0.mk Q_BK848
      have BK849 := Aside0.mk Q_BK849
      have HB := Aside0.mk Q_HB
      refine box_step ?hg (N := 7) ?hd (cs := #[.int .i64 0, .int .i64 0, .int .i64 0, .int .i64 0]) (t := 32) ?hr ?_; (case hd => rfl); (case hg => rfl); (case hr => first | (go_simp; done) | (go_simp; rfl))
      intro gb867 hg w17 hbox hb
      have n0_ := Aside0.mk (blk_below (g := gb847) (o := .cells #[.int .i64 a0_0, .int .i64 a0_1, .int .i64 a0_2, .int .i64 a0_3] 36 (0, 0)) (by (with_reducible repeat (first | refine blk_drewN ?_ _ | refine blk_drew ?_ | refine blk_alloc ?_ _)); exact BK847.out) hb)
      have n1_ := Aside0.mk (blk_below (g := gb848) (o := .cells #[.int .i64 a1_0, .int .i64 a1_1, .int .i64 a1_2, .int .i64 a1_3] 36 (0, 0)) (by (with_reducible repeat (first | refine blk_drewN ?_ _ | refine blk_drew ?_ | refine blk_alloc ?_ _)); exact BK848.out) hb)
      have n2_ := Aside0.mk (blk_below (g := gb849) (o := .cells #[.int .i64 a2_0, .int .i64 a2_1, .int .i64 a2_2, .int .i64 a2_3] 36 (0, 0)) (by (with_reducible repeat (first | refine blk_drewN ?_ _ | refine blk_drew ?_ | refine blk_alloc ?_ _)); exact BK849.out) hb)
      have n3_ := Aside0.mk (below_step (by repeat (first | (with_reducible first | exact HB.out | apply below_alloc | apply pw_below_drewN | apply below_drew1 | refine below_set ?_ GE847.out | refine below_set ?_ GE848.out | refine below_set ?_ GE849.out) | exact HB.out)) hb)
      have n4_ := Aside0.mk (hbox)
      have n5_ := Aside0.mk ((by rw [hg]; exact (below_size (by repeat (first | (with_reducible first | exact HB.out | apply below_alloc | apply pw_below_drewN | apply below_drew1 | refine below_set ?_ GE847.out | refine below_set ?_ GE848.out | refine below_set ?_ GE849.out) | exact HB.out))) : w.heap.size ≤ gb867))
      have n6_ := Aside0.mk ((by rw [hg]; exact (below_size (by repeat (first | (with_reducible first | exact HB.out | apply below_alloc | apply pw_below_drewN | apply below_drew1 | refine below_set ?_ GE847.out | refine below_set ?_ GE848.out | refine below_set ?_ GE849.out) | exact HB.out))) : w.heap.size ≤ gb867))
      have n7_ := Aside0.mk ((by rw [hg]; exact Nat.ne_of_lt (blk_lt (g := gb847) (o := .cells #[.int .i64 a0_0, .int .i64 a0_1, .int .i64 a0_2, .int .i64 a0_3] 36 (0, 0)) (by (with_reducible repeat (first | refine blk_drewN ?_ _ | refine blk_drew ?_ | refine blk_alloc ?_ _)); exact BK847.out)) : gb847 ≠ gb867))
      have n8_ := Aside0.mk ((by rw [hg]; exact Nat.ne_of_gt (blk_lt (g := gb847) (o := .cells #[.int .i64 a0_0, .int .i64 a0_1, .int .i64 a0_2, .int .i64 a0_3] 36 (0, 0)) (by (with_reducible repeat (first | refine blk_drewN ?_ _ | refine blk_drew ?_ | refine blk_alloc ?_ _)); exact BK847.out)) : gb867 ≠ gb847))
      have n9_ := Aside0.mk ((by rw [hg]; exact Nat.ne_of_lt (blk_lt (g := gb848) (o := .cells #[.int .i64 a1_0, .int .i64 a1_1, .int .i64 a1_2, .int .i64 a1_3] 36 (0, 0)) (by (with_reducible repeat (first | refine blk_drewN ?_ _ | refine blk_drew ?_ | refine blk_alloc ?_ _)); exact BK848.out)) : gb848 ≠ gb867))
      have n10_ := Aside0.mk ((by rw [hg]; exact Nat.ne_of_gt (blk_lt (g := gb848) (o := .cells #[.int .i64 a1_0, .int .i64 a1_1, .int .i64 a1_2, .int .i64 a1_3] 36 (0, 0)) (by (with_reducible repeat (first | refine blk_drewN ?_ _ | refine blk_drew ?_ | refine blk_alloc ?_ _)); exact BK848.out)) : gb867 ≠ gb848))
      have n11_ := Aside0.mk ((by rw [hg]; exact Nat.ne_of_lt (blk_lt (g := gb849) (o := .cells #[.int .i64 a2_0, .int .i64 a2_1, .int .i64 a2_2, .int .i64 a2_3] 36 (0, 0)) (by (with_reducible repeat (first | refine blk_drewN ?_ _ | refine blk_drew ?_ | refine blk_alloc ?_ _)); exact BK849.out)) : gb849 ≠ gb867))
      have n12_ := Aside0.mk ((by rw [hg]; exact Nat.ne_of_gt (blk_lt (g := gb849) (o := .cells #[.int .i64 a2_0, .int .i64 a2_1, .int .i64 a2_2, .int .i64 a2_3] 36 (0, 0)) (by (with_reducible repeat (first | refine blk_drewN ?_ _ | refine blk_drew ?_ | refine blk_alloc ?_ _)); exact BK849.out)) : gb867 ≠ gb849))
      clear BK847
      clear BK848
      clear BK849
      clear HB
      have BK847 := n0_
      have BK848 := n1_
      have BK849 := n2_
      have HB := n3_
      have BK867 := n4_
      have GW867 := n5_
      have GE867 := n6_
      have NB847_867 := n7_
      have NB867_847 := n8_
      have NB848_867 := n9_
      have NB867_848 := n10_
      have NB849_867 := n11_
      have NB867_849 := n12_
      clear n0_ n1_ n2_ n3_ n4_ n5_ n6_ n7_ n8_ n9_ n10_ n11_ n12_
      clear hb hbox hg
      refine hK.out _ _ ⟨gb867, (.pointer (some ⟨gb867, 0, none⟩)), (by rw [ha.out]; exact putSel_upk 10 hb_ rfl rfl rfl), (by (with_reducible repeat (first | refine blk_drewN ?_ _ | refine blk_drew ?_ | refine blk_alloc ?_ _)); exact BK847.out), (by (with_reducible repeat (first | refine blk_drewN ?_ _ | refine blk_drew ?_ | refine blk_alloc ?_ _)); exact BK848.out), (by (with_reducible repeat (first | refine blk_drewN ?_ _ | refine blk_drew ?_ | refine blk_alloc ?_ _)); exact BK849.out), (by repeat (first | (with_reducible first | exact HB.out | apply below_alloc | apply pw_below_drewN | apply below_drew1 | refine below_set ?_ GE847.out | refine below_set ?_ GE848.out | refine below_set ?_ GE849.out | refine below_set ?_ GE867.out) | exact HB.out)), fun _ _ => (by (with_reducible repeat (first | refine blk_drewN ?_ _ | refine blk_drew ?_ | refine blk_alloc ?_ _)); exact BK867.out), fun _ => GW867.out, fun _ => GE867.out, fun _ => NB847_867.out, fun _ => NB867_847.out, fun _ => NB848_867.out, fun _ => NB867_848.out, fun _ => NB849_867.out, fun _ => NB867_849.out, fun h0_ => absurd ((hoff 11 (by kernel_rfl)).symm.trans h0_) (by decide), fun _ => rfl⟩
    refine steps_cons ?_ ?_
    · rintro b a w' ⟨gb867, m10_, ha, Q_BK847, Q_BK848, Q_BK849, Q_HB, Q_BK867, Q_GW867, Q_GE867, Q_NB847_867, Q_NB867_847, Q_NB848_867, Q_NB867_848, Q_NB849_867, Q_NB867_849, Q_BK867_e11, Q_X10_⟩ hb_ hon hoff
      refine ⟨_, rfl, fun K hK => ?_⟩
      have e7 : a.tmps[7]? = some (m10_) := by rw [ha]; exact putSel_on (e := (10, 7, m10_)) 10 rfl rfl (hon 10 (by kernel_rfl)) rfl
      rw [Q_X10_ (hon 10 (by kernel_rfl))] at e7
      have e19 : a.tmps[19]? = some (.agg #[.int .i64 t862, .int .i64 t863, .int .i64 t864, .int .i64 t865]) := by rw [ha]; exact putSel_on (e := (8, 19, .agg #[.int .i64 t862, .int .i64 t863, .int .i64 t864, .int .i64 t865])) 8 rfl rfl (hon 8 (by kernel_rfl)) rfl
      replace ha := Aside0.mk ha
      have BK847 := Aside0.mk Q_BK847
      have BK848 := Aside0.mk Q_BK848
      have BK849 := Aside0.mk Q_BK849
      have HB := Aside0.mk Q_HB
      have BK867 := Aside0.mk (Q_BK867 (hon 10 (by kernel_rfl)) hb_)
      have GW867 := Aside0.mk (Q_GW867 (hon 10 (by kernel_rfl)))
      have GE867 := Aside0.mk (Q_GE867 (hon 10 (by kernel_rfl)))
      have NB847_867 := Aside0.mk (Q_NB847_867 (hon 10 (by kernel_rfl)))
      have NB867_847 := Aside0.mk (Q_NB867_847 (hon 10 (by kernel_rfl)))
      have NB848_867 := Aside0.mk (Q_NB848_867 (hon 10 (by kernel_rfl)))
      have NB867_848 := Aside0.mk (Q_NB867_848 (hon 10 (by kernel_rfl)))
      have NB849_867 := Aside0.mk (Q_NB849_867 (hon 10 (by kernel_rfl)))
      have NB867_849 := Aside0.mk (Q_NB867_849 (hon 10 (by kernel_rfl)))
      have hs23 : w'.cell? ⟨gb867, 0, none⟩ = some (.int .i64 0) := (blk_cell BK867.out 0).trans rfl
      have hfs23 := blk_frozen BK867.out 0
      have hns23_0 := NB847_867.out
      have hns23_1 := NB848_867.out
      have hns23_2 := NB849_867.out
      have hms23_0 := NB867_847.out
      have hms23_1 := NB867_848.out
      have hms23_2 := NB867_849.out
      have hs24 : w'.cell? ⟨gb867, 1, none⟩ = some (.int .i64 0) := (blk_cell BK867.out 1).trans rfl
      have hfs24 := blk_frozen BK867.out 1
      have hns24_0 := NB847_867.out
      have hns24_1 := NB848_867.out
      have hns24_2 := NB849_867.out
      have hms24_0 := NB867_847.out
      have hms24_1 := NB867_848.out
      have hms24_2 := NB867_849.out
      have hs25 : w'.cell? ⟨gb867, 2, none⟩ = some (.int .i64 0) := (blk_cell BK867.out 2).trans rfl
      have hfs25 := blk_frozen BK867.out 2
      have hns25_0 := NB847_867.out
      have hns25_1 := NB848_867.out
      have hns25_2 := NB849_867.out
      have hms25_0 := NB867_847.out
      have hms25_1 := NB867_848.out
      have hms25_2 := NB867_849.out
      have hs26 : w'.cell? ⟨gb867, 3, none⟩ = some (.int .i64 0) := (blk_cell BK867.out 3).trans rfl
      have hfs26 := blk_frozen BK867.out 3
      have hns26_0 := NB847_867.out
      have hns26_1 := NB848_867.out
      have hns26_2 := NB849_867.out
      have hms26_0 := NB867_847.out
      have hms26_1 := NB867_848.out
      have hms26_2 := NB867_849.out
      refine skip_ (w1 := ?_) (by rfl) rfl ?_ ?_
      rotate_left
      · go_simp
        rfl
      refine hK.out _ _ ⟨gb867, m10_, (by rw [ha.out]; exact putSel_none (v := undef) rfl), (by (with_reducible repeat (first | refine blk_drewN ?_ _ | refine blk_drew ?_ | refine blk_alloc ?_ _)); refine blk_far ?_ NB847_867.out _; (with_reducible repeat (first | refine blk_drewN ?_ _ | refine blk_drew ?_ | refine blk_alloc ?_ _)); refine blk_far ?_ NB847_867.out _; (with_reducible repeat (first | refine blk_drewN ?_ _ | refine blk_drew ?_ | refine blk_alloc ?_ _)); refine blk_far ?_ NB847_867.out _; (with_reducible repeat (first | refine blk_drewN ?_ _ | refine blk_drew ?_ | refine blk_alloc ?_ _)); refine blk_far ?_ NB847_867.out _; (with_reducible repeat (first | refine blk_drewN ?_ _ | refine blk_drew ?_ | refine blk_alloc ?_ _)); exact BK847.out), (by (with_reducible repeat (first | refine blk_drewN ?_ _ | refine blk_drew ?_ | refine blk_alloc ?_ _)); refine blk_far ?_ NB848_867.out _; (with_reducible repeat (first | refine blk_drewN ?_ _ | refine blk_drew ?_ | refine blk_alloc ?_ _)); refine blk_far ?_ NB848_867.out _; (with_reducible repeat (first | refine blk_drewN ?_ _ | refine blk_drew ?_ | refine blk_alloc ?_ _)); refine blk_far ?_ NB848_867.out _; (with_reducible repeat (first | refine blk_drewN ?_ _ | refine blk_drew ?_ | refine blk_alloc ?_ _)); refine blk_far ?_ NB848_867.out _; (with_reducible repeat (first | refine blk_drewN ?_ _ | refine blk_drew ?_ | refine blk_alloc ?_ _)); exact BK848.out), (by (with_reducible repeat (first | refine blk_drewN ?_ _ | refine blk_drew ?_ | refine blk_alloc ?_ _)); refine blk_far ?_ NB849_867.out _; (with_reducible repeat (first | refine blk_drewN ?_ _ | refine blk_drew ?_ | refine blk_alloc ?_ _)); refine blk_far ?_ NB849_867.out _; (with_reducible repeat (first | refine blk_drewN ?_ _ | refine blk_drew ?_ | refine blk_alloc ?_ _)); refine blk_far ?_ NB849_867.out _; (with_reducible repeat (first | refine blk_drewN ?_ _ | refine blk_drew ?_ | refine blk_alloc ?_ _)); refine blk_far ?_ NB849_867.out _; (with_reducible repeat (first | refine blk_drewN ?_ _ | refine blk_drew ?_ | refine blk_alloc ?_ _)); exact BK849.out), (by repeat (first | (with_reducible first | exact HB.out | apply below_alloc | apply pw_below_drewN | apply below_drew1 | refine below_set ?_ GE847.out | refine below_set ?_ GE848.out | refine below_set ?_ GE849.out | refine below_set ?_ GE867.out) | exact HB.out)), fun _ h1_ => absurd ((up_self b 11).symm.trans h1_) (by decide), fun _ => GW867.out, fun _ => GE867.out, fun _ => NB847_867.out, fun _ => NB867_847.out, fun _ => NB848_867.out, fun _ => NB867_848.out, fun _ => NB849_867.out, fun _ => NB867_849.out, fun _ => (by (with_reducible repeat (first | refine blk_drewN ?_ _ | refine blk_drew ?_ | refine blk_alloc ?_ _)); refine blk_put (cs := #[.int .i64 t862, .int .i64 t863, .int .i64 t864, .int .i64 0]) ?_ 3 _ rfl; (with_reducible repeat (first | refine blk_drewN ?_ _ | refine blk_drew ?_ | refine blk_alloc ?_ _)); refine blk_put (cs := #[.int .i64 t862, .int .i64 t863, .int .i64 0, .int .i64 0]) ?_ 2 _ rfl; (with_reducible repeat (first | refine blk_drewN ?_ _ | refine blk_drew ?_ | refine blk_alloc ?_ _)); refine blk_put (cs := #[.int .i64 t862, .int .i64 0, .int .i64 0, .int .i64 0]) ?_ 1 _ rfl; (with_reducible repeat (first | refine blk_drewN ?_ _ | refine blk_drew ?_ | refine blk_alloc ?_ _)); refine blk_put (cs := #[.int .i64 0, .int .i64 0, .int .i64 0, .int .i64 0]) ?_ 0 _ rfl; (with_reducible repeat (first | refine blk_drewN ?_ _ | refine blk_drew ?_ | refine blk_alloc ?_ _)); exact BK867.out), Q_X10_⟩
    refine steps_cons ?_ ?_
    · rintro b a w' ⟨gb867, m10_, ha, Q_BK847, Q_BK848, Q_BK849, Q_HB, Q_BK867, Q_GW867, Q_GE867, Q_NB847_867, Q_NB867_847, Q_NB848_867, Q_NB867_848, Q_NB849_867, Q_NB867_849, Q_BK867_e11, Q_X10_⟩ hb_ hon hoff
      refine ⟨_, rfl, fun K hK => ?_⟩
      have e20 : a.tmps[20]? = some (.bool t866) := by rw [ha]; exact putSel_on (e := (9, 20, .bool t866)) 9 rfl rfl (hon 9 (by kernel_rfl)) rfl
      replace ha := Aside0.mk ha
      have BK847 := Aside0.mk Q_BK847
      have BK848 := Aside0.mk Q_BK848
      have BK849 := Aside0.mk Q_BK849
      have HB := Aside0.mk Q_HB
      have GW867 := Aside0.mk (Q_GW867 (hon 10 (by kernel_rfl)))
      have GE867 := Aside0.mk (Q_GE867 (hon 10 (by kernel_rfl)))
      have NB847_867 := Aside0.mk (Q_NB847_867 (hon 10 (by kernel_rfl)))
      have NB867_847 := Aside0.mk (Q_NB867_847 (hon 10 (by kernel_rfl)))
      have NB848_867 := Aside0.mk (Q_NB848_867 (hon 10 (by kernel_rfl)))
      have NB867_848 := Aside0.mk (Q_NB867_848 (hon 10 (by kernel_rfl)))
      have NB849_867 := Aside0.mk (Q_NB849_867 (hon 10 (by kernel_rfl)))
      have NB867_849 := Aside0.mk (Q_NB867_849 (hon 10 (by kernel_rfl)))
      have BK867 := Aside0.mk (Q_BK867_e11 (hon 11 (by kernel_rfl)))
      refine value_ (w1 := w') (v := .bool t866) (by rfl) rfl ?_ ?_
      · go_simp
        (try simp only [i64_w])
        try rfl
      refine hK.out _ _ ⟨gb867, m10_, (by rw [ha.out]; exact putSel_upk 11 hb_ rfl rfl rfl), Q_BK847, Q_BK848, Q_BK849, Q_HB, fun _ h1_ => absurd ((hon 11 (by kernel_rfl)).symm.trans h1_) (by decide), Q_GW867, Q_GE867, Q_NB847_867, Q_NB867_847, Q_NB848_867, Q_NB867_848, Q_NB849_867, Q_NB867_849, Q_BK867_e11, Q_X10_⟩
    exact steps_nil
  rintro b a w26 hall ⟨gb867, m10_, ha, Q_BK847, Q_BK848, Q_BK849, Q_HB, Q_BK867, Q_GW867, Q_GE867, Q_NB847_867, Q_NB867_847, Q_NB848_867, Q_NB867_848, Q_NB849_867, Q_NB867_849, Q_BK867_e11, Q_X10_⟩
  clear BK847 BK848 BK849 HB
  have hb0_ := hall 0 (by kernel_rfl)
  have hb1_ := hall 1 (by kernel_rfl)
  have hb2_ := hall 2 (by kernel_rfl)
  have hb3_ := hall 3 (by kernel_rfl)
  have hb4_ := hall 4 (by kernel_rfl)
  have hb5_ := hall 5 (by kernel_rfl)
  have hb6_ := hall 6 (by kernel_rfl)
  have hb7_ := hall 7 (by kernel_rfl)
  have hb8_ := hall 8 (by kernel_rfl)
  have hb9_ := hall 9 (by kernel_rfl)
  have hb10_ := hall 10 (by kernel_rfl)
  have hb11_ := hall 11 (by kernel_rfl)
  have hb12_ := hall 12 (by kernel_rfl)
  subst ha
  obtain rfl := Q_X10_ hb10_
  simp only [putSel, hb0_, hb1_, hb2_, hb3_, hb4_, hb5_, hb6_, hb7_, hb8_, hb9_, hb10_, hb11_, hb12_, if_true, Act.put, List.setIfInBounds_toArray, List.set_cons_zero, List.set_cons_succ]
  have BK847 := Aside0.mk Q_BK847
  clear Q_BK847
  have BK848 := Aside0.mk Q_BK848
  clear Q_BK848
  have BK849 := Aside0.mk Q_BK849
  clear Q_BK849
  have HB := Aside0.mk Q_HB
  clear Q_HB
  clear Q_BK867
  have GW867 := Aside0.mk (Q_GW867 hb10_)
  clear Q_GW867
  have GE867 := Aside0.mk (Q_GE867 hb10_)
  clear Q_GE867
  have NB847_867 := Aside0.mk (Q_NB847_867 hb10_)
  clear Q_NB847_867
  have NB867_847 := Aside0.mk (Q_NB867_847 hb10_)
  clear Q_NB867_847
  have NB848_867 := Aside0.mk (Q_NB848_867 hb10_)
  clear Q_NB848_867
  have NB867_848 := Aside0.mk (Q_NB867_848 hb10_)
  clear Q_NB867_848
  have NB849_867 := Aside0.mk (Q_NB849_867 hb10_)
  clear Q_NB849_867
  have NB867_849 := Aside0.mk (Q_NB867_849 hb10_)
  clear Q_NB867_849
  have BK867 := Aside0.mk (Q_BK867_e11 hb11_)
  clear Q_BK867_e11
  clear hall hb0_ hb1_ hb2_ hb3_ hb4_ hb5_ hb6_ hb7_ hb8_ hb9_ hb10_ hb11_ hb12_
  try go_wp2
  have n0_ := Aside0.mk (blk_drew BK847.out)
  have n1_ := Aside0.mk (blk_drew BK848.out)
  have n2_ := Aside0.mk (blk_drew BK849.out)
  have n3_ := Aside0.mk (blk_drew BK867.out)
  have n4_ := Aside0.mk (below_drew1 HB.out)
  clear BK847
  clear BK848
  clear BK849
  clear BK867
  clear HB
  have BK847 := n0_
  have BK848 := n1_
  have BK849 := n2_
  have BK867 := n3_
  have HB := n4_
  clear n0_ n1_ n2_ n3_ n4_
  refine start_ (n := 13) (S := fun w' => True) (ds := []) #[false, false, false, false, false, false, false, false, false, false, false, false, false] (by kernel_rfl) rfl rfl trivial (fun hHeld => ?_); refine with_tabW laws_FnExactMeet3.tab2 laws_FnExactMeet3.bits2 (fun HT_ HW_ => ?_)
  generalize w26.drew = w27 at BK847 BK848 BK849 BK867 HB hHeld ⊢
  refine inv_at [0, 1, 2, 3, 4, 5, 6, 7, 8, 9, 10, 11, 12] (fun a0_ b a w' => ∃ (gb885 : Nat) (m10_ : Value), a = putSel a0_ b [(0, 22, .agg #[.int .i64 a0_0, .int .i64 a0_1, .int .i64 a0_2, .int .i64 a0_3]), (1, 23, .agg #[.int .i64 t868, .int .i64 t869, .int .i64 t870, .int .i64 t871]), (2, 24, .agg #[.int .i64 a1_0, .int .i64 a1_1, .int .i64 a1_2, .int .i64 a1_3]), (3, 25, .agg #[.int .i64 t872, .int .i64 t873, .int .i64 t874, .int .i64 t875]), (4, 26, .agg #[.int .i64 a2_0, .int .i64 a2_1, .int .i64 a2_2, .int .i64 a2_3]), (5, 27, .agg #[.int .i64 t876, .int .i64 t877, .int .i64 t878, .int .i64 t879]), (6, 28, .tuple #[.agg #[.int .i64 t880, .int .i64 t881, .int .i64 t882, .int .i64 t883], .bool t884]), (7, 21, .tuple #[.agg #[.int .i64 t880, .int .i64 t881, .int .i64 t882, .int .i64 t883], .bool t884]), (8, 29, .agg #[.int .i64 t880, .int .i64 t881, .int .i64 t882, .int .i64 t883]), (9, 30, .bool t884), (10, 9, m10_), (12, 10, .bool t884)] ∧ (w'.heap[gb847]? = some (.cells #[.int .i64 a0_0, .int .i64 a0_1, .int .i64 a0_2, .int .i64 a0_3] 36 (0, 0))) ∧ (w'.heap[gb848]? = some (.cells #[.int .i64 a1_0, .int .i64 a1_1, .int .i64 a1_2, .int .i64 a1_3] 36 (0, 0))) ∧ (w'.heap[gb849]? = some (.cells #[.int .i64 a2_0, .int .i64 a2_1, .int .i64 a2_2, .int .i64 a2_3] 36 (0, 0))) ∧ (w'.heap[gb867]? = some (.cells #[.int .i64 t862, .int .i64 t863, .int .i64 t864, .int .i64 t865] 32 (0, 0))) ∧ (Below w.heap.size w w') ∧ (b 10 = true → b 11 = false → w'.heap[gb885]? = some (.cells #[.int .i64 0, .int .i64 0, .int .i64 0, .int .i64 0] 32 (0, 0))) ∧ (b 10 = true → w.heap.size ≤ gb885) ∧ (b 10 = true → w.heap.size ≤ gb885) ∧ (b 10 = true → gb847 ≠ gb885) ∧ (b 10 = true → gb885 ≠ gb847) ∧ (b 10 = true → gb848 ≠ gb885) ∧ (b 10 = true → gb885 ≠ gb848) ∧ (b 10 = true → gb849 ≠ gb885) ∧ (b 10 = true → gb885 ≠ gb849) ∧ (b 10 = true → gb867 ≠ gb885) ∧ (b 10 = true → gb885 ≠ gb867) ∧ (b 11 = true → w'.heap[gb885]? = some (.cells #[.int .i64 t880, .int .i64 t881, .int .i64 t882, .int .i64 t883] 32 (0, 0))) ∧ (b 10 = true → (m10_ : Value) = .pointer (some ⟨gb885, 0, none⟩))) HT_.out HW_.out (by kernel_rfl) (by kernel_rfl) ?_ ?_ ?_
  · exact ⟨0, .bool false, by simp only [putSel, Bool.false_eq_true, if_false], BK847.out, BK848.out, BK849.out, BK867.out, HB.out, fun h_ => absurd h_ (by decide), fun h_ => absurd h_ (by decide), fun h_ => absurd h_ (by decide), fun h_ => absurd h_ (by decide), fun h_ => absurd h_ (by decide), fun h_ => absurd h_ (by decide), fun h_ => absurd h_ (by decide), fun h_ => absurd h_ (by decide), fun h_ => absurd h_ (by decide), fun h_ => absurd h_ (by decide), fun h_ => absurd h_ (by decide), fun h_ => absurd h_ (by decide), fun h_ => absurd h_ (by decide)⟩
  · skip
    clear BK847 BK848 BK849 BK867 HB
    refine steps_cons ?_ ?_
    · rintro b a w' ⟨gb885, m10_, ha, Q_BK847, Q_BK848, Q_BK849, Q_BK867, Q_HB, Q_BK885, Q_GW885, Q_GE885, Q_NB847_885, Q_NB885_847, Q_NB848_885, Q_NB885_848, Q_NB849_885, Q_NB885_849, Q_NB867_885, Q_NB885_867, Q_BK885_e11, Q_X10_⟩ hb_ hon hoff
      refine ⟨_, rfl, fun K hK => ?_⟩
      have e3 : a.tmps[3]? = some (.pointer (some ⟨gb847, 0, none⟩)) := by rw [ha]; exact (putSel_off rfl).trans rfl
      replace ha := Aside0.mk ha
      have BK847 := Aside0.mk Q_BK847
      have BK848 := Aside0.mk Q_BK848
      have BK849 := Aside0.mk Q_BK849
      have BK867 := Aside0.mk Q_BK867
      have HB := Aside0.mk Q_HB
      have hc0_ : w'.cell? ⟨gb847, 0, none⟩ = some (.int .i64 a0_0) := (blk_cell BK847.out 0).trans rfl
      have hc1_ : w'.cell? ⟨gb847, 1, none⟩ = some (.int .i64 a0_1) := (blk_cell BK847.out 1).trans rfl
      have hc2_ : w'.cell? ⟨gb847, 2, none⟩ = some (.int .i64 a0_2) := (blk_cell BK847.out 2).trans rfl
      have hc3_ : w'.cell? ⟨gb847, 3, none⟩ = some (.int .i64 a0_3) := (blk_cell BK847.out 3).trans rfl
      refine value_ (w1 := w') (v := .agg #[.int .i64 a0_0, .int .i64 a0_1, .int .i64 a0_2, .int .i64 a0_3]) (by rfl) rfl ?_ ?_
      · go_simp
        (try simp only [i64_w])
        try rfl
      refine hK.out _ _ ⟨gb885, m10_, (by rw [ha.out]; exact putSel_upk 0 hb_ rfl rfl rfl), Q_BK847, Q_BK848, Q_BK849, Q_BK867, Q_HB, Q_BK885, Q_GW885, Q_GE885, Q_NB847_885, Q_NB885_847, Q_NB848_885, Q_NB885_848, Q_NB849_885, Q_NB885_849, Q_NB867_885, Q_NB885_867, fun h0_ => absurd ((hoff 11 (by kernel_rfl)).symm.trans h0_) (by decide), Q_X10_⟩
    refine steps_cons ?_ ?_
    · rintro b a w' ⟨gb885, m10_, ha, Q_BK847, Q_BK848, Q_BK849, Q_BK867, Q_HB, Q_BK885, Q_GW885, Q_GE885, Q_NB847_885, Q_NB885_847, Q_NB848_885, Q_NB885_848, Q_NB849_885, Q_NB885_849, Q_NB867_885, Q_NB885_867, Q_BK885_e11, Q_X10_⟩ hb_ hon hoff
      refine ⟨_, rfl, fun K hK => ?_⟩
      have e22 : a.tmps[22]? = some (.agg #[.int .i64 a0_0, .int .i64 a0_1, .int .i64 a0_2, .int .i64 a0_3]) := by rw [ha]; exact putSel_on (e := (0, 22, .agg #[.int .i64 a0_0, .int .i64 a0_1, .int .i64 a0_2, .int .i64 a0_3])) 0 rfl rfl (hon 0 (by kernel_rfl)) rfl
      replace ha := Aside0.mk ha
      have BK847 := Aside0.mk Q_BK847
      have BK848 := Aside0.mk Q_BK848
      have BK849 := Aside0.mk Q_BK849
      have BK867 := Aside0.mk Q_BK867
      have HB := Aside0.mk Q_HB
      refine goes_ Try.func36 (by kernel_rfl) rfl #[.agg #[.int .i64 a0_0, .int .i64 a0_1, .int .i64 a0_2, .int .i64 a0_3]] (by rfl) rfl rfl (by first | (simp only [List.map_toArray, List.map_cons, List.map_nil, Act.eval, Array.getD_eq_getD_getElem?, Option.getD_some, e22]; done) | (simp only [List.map_toArray, List.map_cons, List.map_nil, Act.eval, Array.getD_eq_getD_getElem?, Option.getD_some, e22]; rfl)) ?_
      with_reducible refine (laws_toPlane.calls a0_0 a0_1 a0_2 a0_3 t868 t869 t870 t871 _ A8.out).mono ?_
      rintro e w28 ⟨rfl, hb⟩
      refine ⟨_, rfl, ?_⟩
      have n0_ := Aside0.mk (blk_below (g := gb847) (o := .cells #[.int .i64 a0_0, .int .i64 a0_1, .int .i64 a0_2, .int .i64 a0_3] 36 (0, 0)) (by (with_reducible repeat (first | refine blk_drewN ?_ _ | refine blk_drew ?_ | refine blk_alloc ?_ _)); exact BK847.out) hb)
      have n1_ := Aside0.mk (blk_below (g := gb848) (o := .cells #[.int .i64 a1_0, .int .i64 a1_1, .int .i64 a1_2, .int .i64 a1_3] 36 (0, 0)) (by (with_reducible repeat (first | refine blk_drewN ?_ _ | refine blk_drew ?_ | refine blk_alloc ?_ _)); exact BK848.out) hb)
      have n2_ := Aside0.mk (blk_below (g := gb849) (o := .cells #[.int .i64 a2_0, .int .i64 a2_1, .int .i64 a2_2, .int .i64 a2_3] 36 (0, 0)) (by (with_reducible repeat (first | refine blk_drewN ?_ _ | refine blk_drew ?_ | refine blk_alloc ?_ _)); exact BK849.out) hb)
      have n3_ := Aside0.mk (blk_below (g := gb867) (o := .cells #[.int .i64 t862, .int .i64 t863, .int .i64 t864, .int .i64 t865] 32 (0, 0)) (by (with_reducible repeat (first | refine blk_drewN ?_ _ | refine blk_drew ?_ | refine blk_alloc ?_ _)); exact BK867.out) hb)
      have n4_ := Aside0.mk (below_step (by repeat (first | (with_reducible first | exact HB.out | apply below_alloc | apply pw_below_drewN | apply below_drew1 | refine below_set ?_ GE847.out | refine below_set ?_ GE848.out | refine below_set ?_ GE849.out | refine below_set ?_ GE867.out) | exact HB.out)) hb)
      have z_BK885 := fun (h0_ : b 10 = true) (h1_ : b 11 = false) => (show w28.heap[gb885]? = some (.cells #[.int .i64 0, .int .i64 0, .int .i64 0, .int .i64 0] 32 (0, 0)) from by first | exact (blk_below (g := gb885) (o := .cells #[.int .i64 0, .int .i64 0, .int .i64 0, .int .i64 0] 32 (0, 0)) (by (with_reducible repeat (first | refine blk_drewN ?_ _ | refine blk_drew ?_ | refine blk_alloc ?_ _)); exact (Q_BK885 h0_ h1_)) hb))
      clear BK847
      clear BK848
      clear BK849
      clear BK867
      clear HB
      have BK847 := n0_
      have BK848 := n1_
      have BK849 := n2_
      have BK867 := n3_
      have HB := n4_
      clear n0_ n1_ n2_ n3_ n4_
      (try clear hb)
      (try clear hb2)
      (try clear hk)
      (try clear hi)
      refine hK.out _ _ ⟨gb885, m10_, (by rw [ha.out]; exact putSel_upk 1 hb_ rfl rfl rfl), (by (with_reducible repeat (first | refine blk_drewN ?_ _ | refine blk_drew ?_ | refine blk_alloc ?_ _)); exact BK847.out), (by (with_reducible repeat (first | refine blk_drewN ?_ _ | refine blk_drew ?_ | refine blk_alloc ?_ _)); exact BK848.out), (by (with_reducible repeat (first | refine blk_drewN ?_ _ | refine blk_drew ?_ | refine blk_alloc ?_ _)); exact BK849.out), (by (with_reducible repeat (first | refine blk_drewN ?_ _ | refine blk_drew ?_ | refine blk_alloc ?_ _)); exact BK867.out), (by repeat (first | (with_reducible first | exact HB.out | apply below_alloc | apply pw_below_drewN | apply below_drew1 | refine below_set ?_ GE847.out | refine below_set ?_ GE848.out | refine below_set ?_ GE849.out | refine below_set ?_ GE867.out) | exact HB.out)), z_BK885, Q_GW885, Q_GE885, Q_NB847_885, Q_NB885_847, Q_NB848_885, Q_NB885_848, Q_NB849_885, Q_NB885_849, Q_NB867_885, Q_NB885_867, fun h0_ => absurd ((hoff 11 (by kernel_rfl)).symm.trans h0_) (by decide), Q_X10_⟩
    refine steps_cons ?_ ?_
    · rintro b a w' ⟨gb885, m10_, ha, Q_BK847, Q_BK848, Q_BK849, Q_BK867, Q_HB, Q_BK885, Q_GW885, Q_GE885, Q_NB847_885, Q_NB885_847, Q_NB848_885, Q_NB885_848, Q_NB849_885, Q_NB885_849, Q_NB867_885, Q_NB885_867, Q_BK885_e11, Q_X10_⟩ hb_ hon hoff
      refine ⟨_, rfl, fun K hK => ?_⟩
      have e4 : a.tmps[4]? = some (.pointer (some ⟨gb848, 0, none⟩)) := by rw [ha]; exact (putSel_off rfl).trans rfl
      replace ha := Aside0.mk ha
      have BK847 := Aside0.mk Q_BK847
      have BK848 := Aside0.mk Q_BK848
      have BK849 := Aside0.mk Q_BK849
      have BK867 := Aside0.mk Q_BK867
      have HB := Aside0.mk Q_HB
      have hc0_ : w'.cell? ⟨gb848, 0, none⟩ = some (.int .i64 a1_0) := (blk_cell BK848.out 0).trans rfl
      have hc1_ : w'.cell? ⟨gb848, 1, none⟩ = some (.int .i64 a1_1) := (blk_cell BK848.out 1).trans rfl
      have hc2_ : w'.cell? ⟨gb848, 2, none⟩ = some (.int .i64 a1_2) := (blk_cell BK848.out 2).trans rfl
      have hc3_ : w'.cell? ⟨gb848, 3, none⟩ = some (.int .i64 a1_3) := (blk_cell BK848.out 3).trans rfl
      refine value_ (w1 := w') (v := .agg #[.int .i64 a1_0, .int .i64 a1_1, .int .i64 a1_2, .int .i64 a1_3]) (by rfl) rfl ?_ ?_
      · go_simp
        (try simp only [i64_w])
        try rfl
      refine hK.out _ _ ⟨gb885, m10_, (by rw [ha.out]; exact putSel_upk 2 hb_ rfl rfl rfl), Q_BK847, Q_BK848, Q_BK849, Q_BK867, Q_HB, Q_BK885, Q_GW885, Q_GE885, Q_NB847_885, Q_NB885_847, Q_NB848_885, Q_NB885_848, Q_NB849_885, Q_NB885_849, Q_NB867_885, Q_NB885_867, fun h0_ => absurd ((hoff 11 (by kernel_rfl)).symm.trans h0_) (by decide), Q_X10_⟩
    refine steps_cons ?_ ?_
    · rintro b a w' ⟨gb885, m10_, ha, Q_BK847, Q_BK848, Q_BK849, Q_BK867, Q_HB, Q_BK885, Q_GW885, Q_GE885, Q_NB847_885, Q_NB885_847, Q_NB848_885, Q_NB885_848, Q_NB849_885, Q_NB885_849, Q_NB867_885, Q_NB885_867, Q_BK885_e11, Q_X10_⟩ hb_ hon hoff
      refine ⟨_, rfl, fun K hK => ?_⟩
      have e24 : a.tmps[24]? = some (.agg #[.int .i64 a1_0, .int .i64 a1_1, .int .i64 a1_2, .int .i64 a1_3]) := by rw [ha]; exact putSel_on (e := (2, 24, .agg #[.int .i64 a1_0, .int .i64 a1_1, .int .i64 a1_2, .int .i64 a1_3])) 2 rfl rfl (hon 2 (by kernel_rfl)) rfl
      replace ha := Aside0.mk ha
      have BK847 := Aside0.mk Q_BK847
      have BK848 := Aside0.mk Q_BK848
      have BK849 := Aside0.mk Q_BK849
      have BK867 := Aside0.mk Q_BK867
      have HB := Aside0.mk Q_HB
      refine goes_ Try.func36 (by kernel_rfl) rfl #[.agg #[.int .i64 a1_0, .int .i64 a1_1, .int .i64 a1_2, .int .i64 a1_3]] (by rfl) rfl rfl (by first | (simp only [List.map_toArray, List.map_cons, List.map_nil, Act.eval, Array.getD_eq_getD_getElem?, Option.getD_some, e24]; done) | (simp only [List.map_toArray, List.map_cons, List.map_nil, Act.eval, Array.getD_eq_getD_getElem?, Option.getD_some, e24]; rfl)) ?_
      with_reducible refine (laws_toPlane.calls a1_0 a1_1 a1_2 a1_3 t872 t873 t874 t875 _ A9.out).mono ?_
      rintro e w30 ⟨rfl, hb⟩
      refine ⟨_, rfl, ?_⟩
      have n0_ := Aside0.mk (blk_below (g := gb847) (o := .cells #[.int .i64 a0_0, .int .i64 a0_1, .int .i64 a0_2, .int .i64 a0_3] 36 (0, 0)) (by (with_reducible repeat (first | refine blk_drewN ?_ _ | refine blk_drew ?_ | refine blk_alloc ?_ _)); exact BK847.out) hb)
      have n1_ := Aside0.mk (blk_below (g := gb848) (o := .cells #[.int .i64 a1_0, .int .i64 a1_1, .int .i64 a1_2, .int .i64 a1_3] 36 (0, 0)) (by (with_reducible repeat (first | refine blk_drewN ?_ _ | refine blk_drew ?_ | refine blk_alloc ?_ _)); exact BK848.out) hb)
      have n2_ := Aside0.mk (blk_below (g := gb849) (o := .cells #[.int .i64 a2_0, .int .i64 a2_1, .int .i64 a2_2, .int .i64 a2_3] 36 (0, 0)) (by (with_reducible repeat (first | refine blk_drewN ?_ _ | refine blk_drew ?_ | refine blk_alloc ?_ _)); exact BK849.out) hb)
      have n3_ := Aside0.mk (blk_below (g := gb867) (o := .cells #[.int .i64 t862, .int .i64 t863, .int .i64 t864, .int .i64 t865] 32 (0, 0)) (by (with_reducible repeat (first | refine blk_drewN ?_ _ | refine blk_drew ?_ | refine blk_alloc ?_ _)); exact BK867.out) hb)
      have n4_ := Aside0.mk (below_step (by repeat (first | (with_reducible first | exact HB.out | apply below_alloc | apply pw_below_drewN | apply below_drew1 | refine below_set ?_ GE847.out | refine below_set ?_ GE848.out | refine below_set ?_ GE849.out | refine below_set ?_ GE867.out) | exact HB.out)) hb)
      have z_BK885 := fun (h0_ : b 10 = true) (h1_ : b 11 = false) => (show w30.heap[gb885]? = some (.cells #[.int .i64 0, .int .i64 0, .int .i64 0, .int .i64 0] 32 (0, 0)) from by first | exact (blk_below (g := gb885) (o := .cells #[.int .i64 0, .int .i64 0, .int .i64 0, .int .i64 0] 32 (0, 0)) (by (with_reducible repeat (first | refine blk_drewN ?_ _ | refine blk_drew ?_ | refine blk_alloc ?_ _)); exact (Q_BK885 h0_ h1_)) hb))
      clear BK847
      clear BK848
      clear BK849
      clear BK867
      clear HB
      have BK847 := n0_
      have BK848 := n1_
      have BK849 := n2_
      have BK867 := n3_
      have HB := n4_
      clear n0_ n1_ n2_ n3_ n4_
      (try clear hb)
      (try clear hb2)
      (try clear hk)
      (try clear hi)
      refine hK.out _ _ ⟨gb885, m10_, (by rw [ha.out]; exact putSel_upk 3 hb_ rfl rfl rfl), (by (with_reducible repeat (first | refine blk_drewN ?_ _ | refine blk_drew ?_ | refine blk_alloc ?_ _)); exact BK847.out), (by (with_reducible repeat (first | refine blk_drewN ?_ _ | refine blk_drew ?_ | refine blk_alloc ?_ _)); exact BK848.out), (by (with_reducible repeat (first | refine blk_drewN ?_ _ | refine blk_drew ?_ | refine blk_alloc ?_ _)); exact BK849.out), (by (with_reducible repeat (first | refine blk_drewN ?_ _ | refine blk_drew ?_ | refine blk_alloc ?_ _)); exact BK867.out), (by repeat (first | (with_reducible first | exact HB.out | apply below_alloc | apply pw_below_drewN | apply below_drew1 | refine below_set ?_ GE847.out | refine below_set ?_ GE848.out | refine below_set ?_ GE849.out | refine below_set ?_ GE867.out) | exact HB.out)), z_BK885, Q_GW885, Q_GE885, Q_NB847_885, Q_NB885_847, Q_NB848_885, Q_NB885_848, Q_NB849_885, Q_NB885_849, Q_NB867_885, Q_NB885_867, fun h0_ => absurd ((hoff 11 (by kernel_rfl)).symm.trans h0_) (by decide), Q_X10_⟩
    refine steps_cons ?_ ?_
    · rintro b a w' ⟨gb885, m10_, ha, Q_BK847, Q_BK848, Q_BK849, Q_BK867, Q_HB, Q_BK885, Q_GW885, Q_GE885, Q_NB847_885, Q_NB885_847, Q_NB848_885, Q_NB885_848, Q_NB849_885, Q_NB885_849, Q_NB867_885, Q_NB885_867, Q_BK885_e11, Q_X10_⟩ hb_ hon hoff
      refine ⟨_, rfl, fun K hK => ?_⟩
      have e5 : a.tmps[5]? = some (.pointer (some ⟨gb849, 0, none⟩)) := by rw [ha]; exact (putSel_off rfl).trans rfl
      replace ha := Aside0.mk ha
      have BK847 := Aside0.mk Q_BK847
      have BK848 := Aside0.mk Q_BK848
      have BK849 := Aside0.mk Q_BK849
      have BK867 := Aside0.mk Q_BK867
      have HB := Aside0.mk Q_HB
      have hc0_ : w'.cell? ⟨gb849, 0, none⟩ = some (.int .i64 a2_0) := (blk_cell BK849.out 0).trans rfl
      have hc1_ : w'.cell? ⟨gb849, 1, none⟩ = some (.int .i64 a2_1) := (blk_cell BK849.out 1).trans rfl
      have hc2_ : w'.cell? ⟨gb849, 2, none⟩ = some (.int .i64 a2_2) := (blk_cell BK849.out 2).trans rfl
      have hc3_ : w'.cell? ⟨gb849, 3, none⟩ = some (.int .i64 a2_3) := (blk_cell BK849.out 3).trans rfl
      refine value_ (w1 := w') (v := .agg #[.int .i64 a2_0, .int .i64 a2_1, .int .i64 a2_2, .int .i64 a2_3]) (by rfl) rfl ?_ ?_
      · go_simp
        (try simp only [i64_w])
        try rfl
      refine hK.out _ _ ⟨gb885, m10_, (by rw [ha.out]; exact putSel_upk 4 hb_ rfl rfl rfl), Q_BK847, Q_BK848, Q_BK849, Q_BK867, Q_HB, Q_BK885, Q_GW885, Q_GE885, Q_NB847_885, Q_NB885_847, Q_NB848_885, Q_NB885_848, Q_NB849_885, Q_NB885_849, Q_NB867_885, Q_NB885_867, fun h0_ => absurd ((hoff 11 (by kernel_rfl)).symm.trans h0_) (by decide), Q_X10_⟩
    refine steps_cons ?_ ?_
    · rintro b a w' ⟨gb885, m10_, ha, Q_BK847, Q_BK848, Q_BK849, Q_BK867, Q_HB, Q_BK885, Q_GW885, Q_GE885, Q_NB847_885, Q_NB885_847, Q_NB848_885, Q_NB885_848, Q_NB849_885, Q_NB885_849, Q_NB867_885, Q_NB885_867, Q_BK885_e11, Q_X10_⟩ hb_ hon hoff
      refine ⟨_, rfl, fun K hK => ?_⟩
      have e26 : a.tmps[26]? = some (.agg #[.int .i64 a2_0, .int .i64 a2_1, .int .i64 a2_2, .int .i64 a2_3]) := by rw [ha]; exact putSel_on (e := (4, 26, .agg #[.int .i64 a2_0, .int .i64 a2_1, .int .i64 a2_2, .int .i64 a2_3])) 4 rfl rfl (hon 4 (by kernel_rfl)) rfl
      replace ha := Aside0.mk ha
      have BK847 := Aside0.mk Q_BK847
      have BK848 := Aside0.mk Q_BK848
      have BK849 := Aside0.mk Q_BK849
      have BK867 := Aside0.mk Q_BK867
      have HB := Aside0.mk Q_HB
      refine goes_ Try.func36 (by kernel_rfl) rfl #[.agg #[.int .i64 a2_0, .int .i64 a2_1, .int .i64 a2_2, .int .i64 a2_3]] (by rfl) rfl rfl (by first | (simp only [List.map_toArray, List.map_cons, List.map_nil, Act.eval, Array.getD_eq_getD_getElem?, Option.getD_some, e26]; done) | (simp only [List.map_toArray, List.map_cons, List.map_nil, Act.eval, Array.getD_eq_getD_getElem?, Option.getD_some, e26]; rfl)) ?_
      with_reducible refine (laws_toPlane.calls a2_0 a2_1 a2_2 a2_3 t876 t877 t878 t879 _ A10.out).mono ?_
      rintro e w31 ⟨rfl, hb⟩
      refine ⟨_, rfl, ?_⟩
      have n0_ := Aside0.mk (blk_below (g := gb847) (o := .cells #[.int .i64 a0_0, .int .i64 a0_1, .int .i64 a0_2, .int .i64 a0_3] 36 (0, 0)) (by (with_reducible repeat (first | refine blk_drewN ?_ _ | refine blk_drew ?_ | refine blk_alloc ?_ _)); exact BK847.out) hb)
      have n1_ := Aside0.mk (blk_below (g := gb848) (o := .cells #[.int .i64 a1_0, .int .i64 a1_1, .int .i64 a1_2, .int .i64 a1_3] 36 (0, 0)) (by (with_reducible repeat (first | refine blk_drewN ?_ _ | refine blk_drew ?_ | refine blk_alloc ?_ _)); exact BK848.out) hb)
      have n2_ := Aside0.mk (blk_below (g := gb849) (o := .cells #[.int .i64 a2_0, .int .i64 a2_1, .int .i64 a2_2, .int .i64 a2_3] 36 (0, 0)) (by (with_reducible repeat (first | refine blk_drewN ?_ _ | refine blk_drew ?_ | refine blk_alloc ?_ _)); exact BK849.out) hb)
      have n3_ := Aside0.mk (blk_below (g := gb867) (o := .cells #[.int .i64 t862, .int .i64 t863, .int .i64 t864, .int .i64 t865] 32 (0, 0)) (by (with_reducible repeat (first | refine blk_drewN ?_ _ | refine blk_drew ?_ | refine blk_alloc ?_ _)); exact BK867.out) hb)
      have n4_ := Aside0.mk (below_step (by repeat (first | (with_reducible first | exact HB.out | apply below_alloc | apply pw_below_drewN | apply below_drew1 | refine below_set ?_ GE847.out | refine below_set ?_ GE848.out | refine below_set ?_ GE849.out | refine below_set ?_ GE867.out) | exact HB.out)) hb)
      have z_BK885 := fun (h0_ : b 10 = true) (h1_ : b 11 = false) => (show w31.heap[gb885]? = some (.cells #[.int .i64 0, .int .i64 0, .int .i64 0, .int .i64 0] 32 (0, 0)) from by first | exact (blk_below (g := gb885) (o := .cells #[.int .i64 0, .int .i64 0, .int .i64 0, .int .i64 0] 32 (0, 0)) (by (with_reducible repeat (first | refine blk_drewN ?_ _ | refine blk_drew ?_ | refine blk_alloc ?_ _)); exact (Q_BK885 h0_ h1_)) hb))
      clear BK847
      clear BK848
      clear BK849
      clear BK867
      clear HB
      have BK847 := n0_
      have BK848 := n1_
      have BK849 := n2_
      have BK867 := n3_
      have HB := n4_
      clear n0_ n1_ n2_ n3_ n4_
      (try clear hb)
      (try clear hb2)
      (try clear hk)
      (try clear hi)
      refine hK.out _ _ ⟨gb885, m10_, (by rw [ha.out]; exact putSel_upk 5 hb_ rfl rfl rfl), (by (with_reducible repeat (first | refine blk_drewN ?_ _ | refine blk_drew ?_ | refine blk_alloc ?_ _)); exact BK847.out), (by (with_reducible repeat (first | refine blk_drewN ?_ _ | refine blk_drew ?_ | refine blk_alloc ?_ _)); exact BK848.out), (by (with_reducible repeat (first | refine blk_drewN ?_ _ | refine blk_drew ?_ | refine blk_alloc ?_ _)); exact BK849.out), (by (with_reducible repeat (first | refine blk_drewN ?_ _ | refine blk_drew ?_ | refine blk_alloc ?_ _)); exact BK867.out), (by repeat (first | (with_reducible first | exact HB.out | apply below_alloc | apply pw_below_drewN | apply below_drew1 | refine below_set ?_ GE847.out | refine below_set ?_ GE848.out | refine below_set ?_ GE849.out | refine below_set ?_ GE867.out) | exact HB.out)), z_BK885, Q_GW885, Q_GE885, Q_NB847_885, Q_NB885_847, Q_NB848_885, Q_NB885_848, Q_NB849_885, Q_NB885_849, Q_NB867_885, Q_NB885_867, fun h0_ => absurd ((hoff 11 (by kernel_rfl)).symm.trans h0_) (by decide), Q_X10_⟩
    refine steps_cons ?_ ?_
    · rintro b a w' ⟨gb885, m10_, ha, Q_BK847, Q_BK848, Q_BK849, Q_BK867, Q_HB, Q_BK885, Q_GW885, Q_GE885, Q_NB847_885, Q_NB885_847, Q_NB848_885, Q_NB885_848, Q_NB849_885, Q_NB885_849, Q_NB867_885, Q_NB885_867, Q_BK885_e11, Q_X10_⟩ hb_ hon hoff
      refine ⟨_, rfl, fun K hK => ?_⟩
      have e23 : a.tmps[23]? = some (.agg #[.int .i64 t868, .int .i64 t869, .int .i64 t870, .int .i64 t871]) := by rw [ha]; exact putSel_on (e := (1, 23, .agg #[.int .i64 t868, .int .i64 t869, .int .i64 t870, .int .i64 t871])) 1 rfl rfl (hon 1 (by kernel_rfl)) rfl
      have e25 : a.tmps[25]? = some (.agg #[.int .i64 t872, .int .i64 t873, .int .i64 t874, .int .i64 t875]) := by rw [ha]; exact putSel_on (e := (3, 25, .agg #[.int .i64 t872, .int .i64 t873, .int .i64 t874, .int .i64 t875])) 3 rfl rfl (hon 3 (by kernel_rfl)) rfl
      have e27 : a.tmps[27]? = some (.agg #[.int .i64 t876, .int .i64 t877, .int .i64 t878, .int .i64 t879]) := by rw [ha]; exact putSel_on (e := (5, 27, .agg #[.int .i64 t876, .int .i64 t877, .int .i64 t878, .int .i64 t879])) 5 rfl rfl (hon 5 (by kernel_rfl)) rfl
      replace ha := Aside0.mk ha
      have BK847 := Aside0.mk Q_BK847
      have BK848 := Aside0.mk Q_BK848
      have BK849 := Aside0.mk Q_BK849
      have BK867 := Aside0.mk Q_BK867
      have HB := Aside0.mk Q_HB
      refine goes_ Try.func64 (by kernel_rfl) rfl #[.agg #[.int .i64 t868, .int .i64 t869, .int .i64 t870, .int .i64 t871], .agg #[.int .i64 t872, .int .i64 t873, .int .i64 t874, .int .i64 t875], .agg #[.int .i64 t876, .int .i64 t877, .int .i64 t878, .int .i64 t879]] (by rfl) rfl rfl (by first | (simp only [List.map_toArray, List.map_cons, List.map_nil, Act.eval, Array.getD_eq_getD_getElem?, Option.getD_some, e23, e25, e27]; done) | (simp only [List.map_toArray, List.map_cons, List.map_nil, Act.eval, Array.getD_eq_getD_getElem?, Option.getD_some, e23, e25, e27]; rfl)) ?_
      with_reducible refine (impl_Meet3.calls k t868 t869 t870 t871 t872 t873 t874 t875 t876 t877 t878 t879 t880 t881 t882 t883 t884 _ A11.out).mono ?_
      rintro e w32 ⟨rfl, hb⟩
      refine ⟨_, rfl, ?_⟩
      have n0_ := Aside0.mk (blk_below (g := gb847) (o := .cells #[.int .i64 a0_0, .int .i64 a0_1, .int .i64 a0_2, .int .i64 a0_3] 36 (0, 0)) (by (with_reducible repeat (first | refine blk_drewN ?_ _ | refine blk_drew ?_ | refine blk_alloc ?_ _)); exact BK847.out) hb)
      have n1_ := Aside0.mk (blk_below (g := gb848) (o := .cells #[.int .i64 a1_0, .int .i64 a1_1, .int .i64 a1_2, .int .i64 a1_3] 36 (0, 0)) (by (with_reducible repeat (first | refine blk_drewN ?_ _ | refine blk_drew ?_ | refine blk_alloc ?_ _)); exact BK848.out) hb)
      have n2_ := Aside0.mk (blk_below (g := gb849) (o := .cells #[.int .i64 a2_0, .int .i64 a2_1, .int .i64 a2_2, .int .i64 a2_3] 36 (0, 0)) (by (with_reducible repeat (first | refine blk_drewN ?_ _ | refine blk_drew ?_ | refine blk_alloc ?_ _)); exact BK849.out) hb)
      have n3_ := Aside0.mk (blk_below (g := gb867) (o := .cells #[.int .i64 t862, .int .i64 t863, .int .i64 t864, .int .i64 t865] 32 (0, 0)) (by (with_reducible repeat (first | refine blk_drewN ?_ _ | refine blk_drew ?_ | refine blk_alloc ?_ _)); exact BK867.out) hb)
      have n4_ := Aside0.mk (below_step (by repeat (first | (with_reducible first | exact HB.out | apply below_alloc | apply pw_below_drewN | apply below_drew1 | refine below_set ?_ GE847.out | refine below_set ?_ GE848.out | refine below_set ?_ GE849.out | refine below_set ?_ GE867.out) | exact HB.out)) hb)
      have z_BK885 := fun (h0_ : b 10 = true) (h1_ : b 11 = false) => (show w32.heap[gb885]? = some (.cells #[.int .i64 0, .int .i64 0, .int .i64 0, .int .i64 0] 32 (0, 0)) from by first | exact (blk_below (g := gb885) (o := .cells #[.int .i64 0, .int .i64 0, .int .i64 0, .int .i64 0] 32 (0, 0)) (by (with_reducible repeat (first | refine blk_drewN ?_ _ | refine blk_drew ?_ | refine blk_alloc ?_ _)); exact (Q_BK885 h0_ h1_)) hb))
      clear BK847
      clear BK848
      clear BK849
      clear BK867
      clear HB
      have BK847 := n0_
      have BK848 := n1_
      have BK849 := n2_
      have BK867 := n3_
      have HB := n4_
      clear n0_ n1_ n2_ n3_ n4_
      (try clear hb)
      (try clear hb2)
      (try clear hk)
      (try clear hi)
      refine hK.out _ _ ⟨gb885, m10_, (by rw [ha.out]; exact putSel_upk 6 hb_ rfl rfl rfl), (by (with_reducible repeat (first | refine blk_drewN ?_ _ | refine blk_drew ?_ | refine blk_alloc ?_ _)); exact BK847.out), (by (with_reducible repeat (first | refine blk_drewN ?_ _ | refine blk_drew ?_ | refine blk_alloc ?_ _)); exact BK848.out), (by (with_reducible repeat (first | refine blk_drewN ?_ _ | refine blk_drew ?_ | refine blk_alloc ?_ _)); exact BK849.out), (by (with_reducible repeat (first | refine blk_drewN ?_ _ | refine blk_drew ?_ | refine blk_alloc ?_ _)); exact BK867.out), (by repeat (first | (with_reducible first | exact HB.out | apply below_alloc | apply pw_below_drewN | apply below_drew1 | refine below_set ?_ GE847.out | refine below_set ?_ GE848.out | refine below_set ?_ GE849.out | refine below_set ?_ GE867.out) | exact HB.out)), z_BK885, Q_GW885, Q_GE885, Q_NB847_885, Q_NB885_847, Q_NB848_885, Q_NB885_848, Q_NB849_885, Q_NB885_849, Q_NB867_885, Q_NB885_867, fun h0_ => absurd ((hoff 11 (by kernel_rfl)).symm.trans h0_) (by decide), Q_X10_⟩
    refine steps_cons ?_ ?_
    · rintro b a w' ⟨gb885, m10_, ha, Q_BK847, Q_BK848, Q_BK849, Q_BK867, Q_HB, Q_BK885, Q_GW885, Q_GE885, Q_NB847_885, Q_NB885_847, Q_NB848_885, Q_NB885_848, Q_NB849_885, Q_NB885_849, Q_NB867_885, Q_NB885_867, Q_BK885_e11, Q_X10_⟩ hb_ hon hoff
      refine ⟨_, rfl, fun K hK => ?_⟩
      have e28 : a.tmps[28]? = some (.tuple #[.agg #[.int .i64 t880, .int .i64 t881, .int .i64 t882, .int .i64 t883], .bool t884]) := by rw [ha]; exact putSel_on (e := (6, 28, .tuple #[.agg #[.int .i64 t880, .int .i64 t881, .int .i64 t882, .int .i64 t883], .bool t884])) 6 rfl rfl (hon 6 (by kernel_rfl)) rfl
      replace ha := Aside0.mk ha
      have BK847 := Aside0.mk Q_BK847
      have BK848 := Aside0.mk Q_BK848
      have BK849 := Aside0.mk Q_BK849
      have BK867 := Aside0.mk Q_BK867
      have HB := Aside0.mk Q_HB
      refine value_ (w1 := w') (v := .tuple #[.agg #[.int .i64 t880, .int .i64 t881, .int .i64 t882, .int .i64 t883], .bool t884]) (by rfl) rfl ?_ ?_
      · go_simp
        (try simp only [i64_w])
        try rfl
      refine hK.out _ _ ⟨gb885, m10_, (by rw [ha.out]; exact putSel_upk 7 hb_ rfl rfl rfl), Q_BK847, Q_BK848, Q_BK849, Q_BK867, Q_HB, Q_BK885, Q_GW885, Q_GE885, Q_NB847_885, Q_NB885_847, Q_NB848_885, Q_NB885_848, Q_NB849_885, Q_NB885_849, Q_NB867_885, Q_NB885_867, fun h0_ => absurd ((hoff 11 (by kernel_rfl)).symm.trans h0_) (by decide), Q_X10_⟩
    refine steps_cons ?_ ?_
    · rintro b a w' ⟨gb885, m10_, ha, Q_BK847, Q_BK848, Q_BK849, Q_BK867, Q_HB, Q_BK885, Q_GW885, Q_GE885, Q_NB847_885, Q_NB885_847, Q_NB848_885, Q_NB885_848, Q_NB849_885, Q_NB885_849, Q_NB867_885, Q_NB885_867, Q_BK885_e11, Q_X10_⟩ hb_ hon hoff
      refine ⟨_, rfl, fun K hK => ?_⟩
      have e21 : a.tmps[21]? = some (.tuple #[.agg #[.int .i64 t880, .int .i64 t881, .int .i64 t882, .int .i64 t883], .bool t884]) := by rw [ha]; exact putSel_on (e := (7, 21, .tuple #[.agg #[.int .i64 t880, .int .i64 t881, .int .i64 t882, .int .i64 t883], .bool t884])) 7 rfl rfl (hon 7 (by kernel_rfl)) rfl
      replace ha := Aside0.mk ha
      have BK847 := Aside0.mk Q_BK847
      have BK848 := Aside0.mk Q_BK848
      have BK849 := Aside0.mk Q_BK849
      have BK867 := Aside0.mk Q_BK867
      have HB := Aside0.mk Q_HB
      refine value_ (w1 := w') (v := .agg #[.int .i64 t880, .int .i64 t881, .int .i64 t882, .int .i64 t883]) (by rfl) rfl ?_ ?_
      · go_simp
        (try simp only [i64_w])
        try rfl
      refine hK.out _ _ ⟨gb885, m10_, (by rw [ha.out]; exact putSel_upk 8 hb_ rfl rfl rfl), Q_BK847, Q_BK848, Q_BK849, Q_BK867, Q_HB, Q_BK885, Q_GW885, Q_GE885, Q_NB847_885, Q_NB885_847, Q_NB848_885, Q_NB885_848, Q_NB849_885, Q_NB885_849, Q_NB867_885, Q_NB885_867, fun h0_ => absurd ((hoff 11 (by kernel_rfl)).symm.trans h0_) (by decide), Q_X10_⟩
    refine steps_cons ?_ ?_
    · rintro b a w' ⟨gb885, m10_, ha, Q_BK847, Q_BK848, Q_BK849, Q_BK867, Q_HB, Q_BK885, Q_GW885, Q_GE885, Q_NB847_885, Q_NB885_847, Q_NB848_885, Q_NB885_848, Q_NB849_885, Q_NB885_849, Q_NB867_885, Q_NB885_867, Q_BK885_e11, Q_X10_⟩ hb_ hon hoff
      refine ⟨_, rfl, fun K hK => ?_⟩
      have e21 : a.tmps[21]? = some (.tuple #[.agg #[.int .i64 t880, .int .i64 t881, .int .i64 t882, .int .i64 t883], .bool t884]) := by rw [ha]; exact putSel_on (e := (7, 21, .tuple #[.agg #[.int .i64 t880, .int .i64 t881, .int .i64 t882, .int .i64 t883], .bool t884])) 7 rfl rfl (hon 7 (by kernel_rfl)) rfl
      replace ha := Aside0.mk ha
      have BK847 := Aside0.mk Q_BK847
      have BK848 := Aside0.mk Q_BK848
      have BK849 := Aside0.mk Q_BK849
      have BK867 := Aside0.mk Q_BK867
      have HB := Aside0.mk Q_HB
      refine value_ (w1 := w') (v := .bool t884) (by rfl) rfl ?_ ?_
      · go_simp
        (try simp only [i64_w])
        try rfl
      refine hK.out _ _ ⟨gb885, m10_, (by rw [ha.out]; exact putSel_upk 9 hb_ rfl rfl rfl), Q_BK847, Q_BK848, Q_BK849, Q_BK867, Q_HB, Q_BK885, Q_GW885, Q_GE885, Q_NB847_885, Q_NB885_847, Q_NB848_885, Q_NB885_848, Q_NB849_885, Q_NB885_849, Q_NB867_885, Q_NB885_867, Q_BK885_e11, Q_X10_⟩
    refine steps_cons ?_ ?_
    · rintro b a w' ⟨gb885, m10_, ha, Q_BK847, Q_BK848, Q_BK849, Q_BK867, Q_HB, Q_BK885, Q_GW885, Q_GE885, Q_NB847_885, Q_NB885_847, Q_NB848_885, Q_NB885_848, Q_NB849_885, Q_NB885_849, Q_NB867_885, Q_NB885_867, Q_BK885_e11, Q_X10_⟩ hb_ hon hoff
      refine ⟨_, rfl, fun K hK => ?_⟩
      replace ha := Aside0.mk ha
      have BK847 := Aside0.mk Q_BK847
      have BK848 := Aside0.mk Q_BK848
      have BK849 := Aside0.mk Q_BK849
      have BK867 := Aside0.mk Q_BK867
      have HB := Aside0.mk Q_HB
      refine box_step ?hg (N := 9) ?hd (cs := #[.int .i64 0, .int .i64 0, .int .i64 0, .int .i64 0]) (t := 32) ?hr ?_; (case hd => rfl); (case hg => rfl); (case hr => first | (go_simp; done) | (go_simp; rfl))
      intro gb885 hg w28 hbox hb
      have n0_ := Aside0.mk (blk_below (g := gb847) (o := .cells #[.int .i64 a0_0, .int .i64 a0_1, .int .i64 a0_2, .int .i64 a0_3] 36 (0, 0)) (by (with_reducible repeat (first | refine blk_drewN ?_ _ | refine blk_drew ?_ | refine blk_alloc ?_ _)); exact BK847.out) hb)
      have n1_ := Aside0.mk (blk_below (g := gb848) (o := .cells #[.int .i64 a1_0, .int .i64 a1_1, .int .i64 a1_2, .int .i64 a1_3] 36 (0, 0)) (by (with_reducible repeat (first | refine blk_drewN ?_ _ | refine blk_drew ?_ | refine blk_alloc ?_ _)); exact BK848.out) hb)
      have n2_ := Aside0.mk (blk_below (g := gb849) (o := .cells #[.int .i64 a2_0, .int .i64 a2_1, .int .i64 a2_2, .int .i64 a2_3] 36 (0, 0)) (by (with_reducible repeat (first | refine blk_drewN ?_ _ | refine blk_drew ?_ | refine blk_alloc ?_ _)); exact BK849.out) hb)
      have n3_ := Aside0.mk (blk_below (g := gb867) (o := .cells #[.int .i64 t862, .int .i64 t863, .int .i64 t864, .int .i64 t865] 32 (0, 0)) (by (with_reducible repeat (first | refine blk_drewN ?_ _ | refine blk_drew ?_ | refine blk_alloc ?_ _)); exact BK867.out) hb)
      have n4_ := Aside0.mk (below_step (by repeat (first | (with_reducible first | exact HB.out | apply below_alloc | apply pw_below_drewN | apply below_drew1 | refine below_set ?_ GE847.out | refine below_set ?_ GE848.out | refine below_set ?_ GE849.out | refine below_set ?_ GE867.out) | exact HB.out)) hb)
      have n5_ := Aside0.mk (hbox)
      have n6_ := Aside0.mk ((by rw [hg]; exact (below_size (by repeat (first | (with_reducible first | exact HB.out | apply below_alloc | apply pw_below_drewN | apply below_drew1 | refine below_set ?_ GE847.out | refine below_set ?_ GE848.out | refine below_set ?_ GE849.out | refine below_set ?_ GE867.out) | exact HB.out))) : w.heap.size ≤ gb885))
      have n7_ := Aside0.mk ((by rw [hg]; exact (below_size (by repeat (first | (with_reducible first | exact HB.out | apply below_alloc | apply pw_below_drewN | apply below_drew1 | refine below_set ?_ GE847.out | refine below_set ?_ GE848.out | refine below_set ?_ GE849.out | refine below_set ?_ GE867.out) | exact HB.out))) : w.heap.size ≤ gb885))
      have n8_ := Aside0.mk ((by rw [hg]; exact Nat.ne_of_lt (blk_lt (g := gb847) (o := .cells #[.int .i64 a0_0, .int .i64 a0_1, .int .i64 a0_2, .int .i64 a0_3] 36 (0, 0)) (by (with_reducible repeat (first | refine blk_drewN ?_ _ | refine blk_drew ?_ | refine blk_alloc ?_ _)); exact BK847.out)) : gb847 ≠ gb885))
      have n9_ := Aside0.mk ((by rw [hg]; exact Nat.ne_of_gt (blk_lt (g := gb847) (o := .cells #[.int .i64 a0_0, .int .i64 a0_1, .int .i64 a0_2, .int .i64 a0_3] 36 (0, 0)) (by (with_reducible repeat (first | refine blk_drewN ?_ _ | refine blk_drew ?_ | refine blk_alloc ?_ _)); exact BK847.out)) : gb885 ≠ gb847))
      have n10_ := Aside0.mk ((by rw [hg]; exact Nat.ne_of_lt (blk_lt (g := gb848) (o := .cells #[.int .i64 a1_0, .int .i64 a1_1, .int .i64 a1_2, .int .i64 a1_3] 36 (0, 0)) (by (with_reducible repeat (first | refine blk_drewN ?_ _ | refine blk_drew ?_ | refine blk_alloc ?_ _)); exact BK848.out)) : gb848 ≠ gb885))
      have n11_ := Aside0.mk ((by rw [hg]; exact Nat.ne_of_gt (blk_lt (g := gb848) (o := .cells #[.int .i64 a1_0, .int .i64 a1_1, .int .i64 a1_2, .int .i64 a1_3] 36 (0, 0)) (by (with_reducible repeat (first | refine blk_drewN ?_ _ | refine blk_drew ?_ | refine blk_alloc ?_ _)); exact BK848.out)) : gb885 ≠ gb848))
      have n12_ := Aside0.mk ((by rw [hg]; exact Nat.ne_of_lt (blk_lt (g := gb849) (o := .cells #[.int .i64 a2_0, .int .i64 a2_1, .int .i64 a2_2, .int .i64 a2_3] 36 (0, 0)) (by (with_reducible repeat (first | refine blk_drewN ?_ _ | refine blk_drew ?_ | refine blk_alloc ?_ _)); exact BK849.out)) : gb849 ≠ gb885))
      have n13_ := Aside0.mk ((by rw [hg]; exact Nat.ne_of_gt (blk_lt (g := gb849) (o := .cells #[.int .i64 a2_0, .int .i64 a2_1, .int .i64 a2_2, .int .i64 a2_3] 36 (0, 0)) (by (with_reducible repeat (first | refine blk_drewN ?_ _ | refine blk_drew ?_ | refine blk_alloc ?_ _)); exact BK849.out)) : gb885 ≠ gb849))
      have n14_ := Aside0.mk ((by rw [hg]; exact Nat.ne_of_lt (blk_lt (g := gb867) (o := .cells #[.int .i64 t862, .int .i64 t863, .int .i64 t864, .int .i64 t865] 32 (0, 0)) (by (with_reducible repeat (first | refine blk_drewN ?_ _ | refine blk_drew ?_ | refine blk_alloc ?_ _)); exact BK867.out)) : gb867 ≠ gb885))
      have n15_ := Aside0.mk ((by rw [hg]; exact Nat.ne_of_gt (blk_lt (g := gb867) (o := .cells #[.int .i64 t862, .int .i64 t863, .int .i64 t864, .int .i64 t865] 32 (0, 0)) (by (with_reducible repeat (first | refine blk_drewN ?_ _ | refine blk_drew ?_ | refine blk_alloc ?_ _)); exact BK867.out)) : gb885 ≠ gb867))
      clear BK847
      clear BK848
      clear BK849
      clear BK867
      clear HB
      have BK847 := n0_
      have BK848 := n1_
      have BK849 := n2_
      have BK867 := n3_
      have HB := n4_
      have BK885 := n5_
      have GW885 := n6_
      have GE885 := n7_
      have NB847_885 := n8_
      have NB885_847 := n9_
      have NB848_885 := n10_
      have NB885_848 := n11_
      have NB849_885 := n12_
      have NB885_849 := n13_
      have NB867_885 := n14_
      have NB885_867 := n15_
      clear n0_ n1_ n2_ n3_ n4_ n5_ n6_ n7_ n8_ n9_ n10_ n11_ n12_ n13_ n14_ n15_
      clear hb hbox hg
      refine hK.out _ _ ⟨gb885, (.pointer (some ⟨gb885, 0, none⟩)), (by rw [ha.out]; exact putSel_upk 10 hb_ rfl rfl rfl), (by (with_reducible repeat (first | refine blk_drewN ?_ _ | refine blk_drew ?_ | refine blk_alloc ?_ _)); exact BK847.out), (by (with_reducible repeat (first | refine blk_drewN ?_ _ | refine blk_drew ?_ | refine blk_alloc ?_ _)); exact BK848.out), (by (with_reducible repeat (first | refine blk_drewN ?_ _ | refine blk_drew ?_ | refine blk_alloc ?_ _)); exact BK849.out), (by (with_reducible repeat (first | refine blk_drewN ?_ _ | refine blk_drew ?_ | refine blk_alloc ?_ _)); exact BK867.out), (by repeat (first | (with_reducible first | exact HB.out | apply below_alloc | apply pw_below_drewN | apply below_drew1 | refine below_set ?_ GE847.out | refine below_set ?_ GE848.out | refine below_set ?_ GE849.out | refine below_set ?_ GE867.out | refine below_set ?_ GE885.out) | exact HB.out)), fun _ _ => (by (with_reducible repeat (first | refine blk_drewN ?_ _ | refine blk_drew ?_ | refine blk_alloc ?_ _)); exact BK885.out), fun _ => GW885.out, fun _ => GE885.out, fun _ => NB847_885.out, fun _ => NB885_847.out, fun _ => NB848_885.out, fun _ => NB885_848.out, fun _ => NB849_885.out, fun _ => NB885_849.out, fun _ => NB867_885.out, fun _ => NB885_867.out, fun h0_ => absurd ((hoff 11 (by kernel_rfl)).symm.trans h0_) (by decide), fun _ => rfl⟩
    refine steps_cons ?_ ?_
    · rintro b a w' ⟨gb885, m10_, ha, Q_BK847, Q_BK848, Q_BK849, Q_BK867, Q_HB, Q_BK885, Q_GW885, Q_GE885, Q_NB847_885, Q_NB885_847, Q_NB848_885, Q_NB885_848, Q_NB849_885, Q_NB885_849, Q_NB867_885, Q_NB885_867, Q_BK885_e11, Q_X10_⟩ hb_ hon hoff
      refine ⟨_, rfl, fun K hK => ?_⟩
      have e9 : a.tmps[9]? = some (m10_) := by rw [ha]; exact putSel_on (e := (10, 9, m10_)) 10 rfl rfl (hon 10 (by kernel_rfl)) rfl
      rw [Q_X10_ (hon 10 (by kernel_rfl))] at e9
      have e29 : a.tmps[29]? = some (.agg #[.int .i64 t880, .int .i64 t881, .int .i64 t882, .int .i64 t883]) := by rw [ha]; exact putSel_on (e := (8, 29, .agg #[.int .i64 t880, .int .i64 t881, .int .i64 t882, .int .i64 t883])) 8 rfl rfl (hon 8 (by kernel_rfl)) rfl
      replace ha := Aside0.mk ha
      have BK847 := Aside0.mk Q_BK847
      have BK848 := Aside0.mk Q_BK848
      have BK849 := Aside0.mk Q_BK849
      have BK867 := Aside0.mk Q_BK867
      have HB := Aside0.mk Q_HB
      have BK885 := Aside0.mk (Q_BK885 (hon 10 (by kernel_rfl)) hb_)
      have GW885 := Aside0.mk (Q_GW885 (hon 10 (by kernel_rfl)))
      have GE885 := Aside0.mk (Q_GE885 (hon 10 (by kernel_rfl)))
      have NB847_885 := Aside0.mk (Q_NB847_885 (hon 10 (by kernel_rfl)))
      have NB885_847 := Aside0.mk (Q_NB885_847 (hon 10 (by kernel_rfl)))
      have NB848_885 := Aside0.mk (Q_NB848_885 (hon 10 (by kernel_rfl)))
      have NB885_848 := Aside0.mk (Q_NB885_848 (hon 10 (by kernel_rfl)))
      have NB849_885 := Aside0.mk (Q_NB849_885 (hon 10 (by kernel_rfl)))
      have NB885_849 := Aside0.mk (Q_NB885_849 (hon 10 (by kernel_rfl)))
      have NB867_885 := Aside0.mk (Q_NB867_885 (hon 10 (by kernel_rfl)))
      have NB885_867 := Aside0.mk (Q_NB885_867 (hon 10 (by kernel_rfl)))
      have hs34 : w'.cell? ⟨gb885, 0, none⟩ = some (.int .i64 0) := (blk_cell BK885.out 0).trans rfl
      have hfs34 := blk_frozen BK885.out 0
      have hns34_0 := NB847_885.out
      have hns34_1 := NB848_885.out
      have hns34_2 := NB849_885.out
      have hns34_3 := NB867_885.out
      have hms34_0 := NB885_847.out
      have hms34_1 := NB885_848.out
      have hms34_2 := NB885_849.out
      have hms34_3 := NB885_867.out
      have hs35 : w'.cell? ⟨gb885, 1, none⟩ = some (.int .i64 0) := (blk_cell BK885.out 1).trans rfl
      have hfs35 := blk_frozen BK885.out 1
      have hns35_0 := NB847_885.out
      have hns35_1 := NB848_885.out
      have hns35_2 := NB849_885.out
      have hns35_3 := NB867_885.out
      have hms35_0 := NB885_847.out
      have hms35_1 := NB885_848.out
      have hms35_2 := NB885_849.out
      have hms35_3 := NB885_867.out
      have hs36 : w'.cell? ⟨gb885, 2, none⟩ = some (.int .i64 0) := (blk_cell BK885.out 2).trans rfl
      have hfs36 := blk_frozen BK885.out 2
      have hns36_0 := NB847_885.out
      have hns36_1 := NB848_885.out
      have hns36_2 := NB849_885.out
      have hns36_3 := NB867_885.out
      have hms36_0 := NB885_847.out
      have hms36_1 := NB885_848.out
      have hms36_2 := NB885_849.out
      have hms36_3 := NB885_867.out
      have hs37 : w'.cell? ⟨gb885, 3, none⟩ = some (.int .i64 0) := (blk_cell BK885.out 3).trans rfl
      have hfs37 := blk_frozen BK885.out 3
      have hns37_0 := NB847_885.out
      have hns37_1 := NB848_885.out
      have hns37_2 := NB849_885.out
      have hns37_3 := NB867_885.out
      have hms37_0 := NB885_847.out
      have hms37_1 := NB885_848.out
      have hms37_2 := NB885_849.out
      have hms37_3 := NB885_867.out
      refine skip_ (w1 := ?_) (by rfl) rfl ?_ ?_
      rotate_left
      · go_simp
        rfl
      refine hK.out _ _ ⟨gb885, m10_, (by rw [ha.out]; exact putSel_none (v := undef) rfl), (by (with_reducible repeat (first | refine blk_drewN ?_ _ | refine blk_drew ?_ | refine blk_alloc ?_ _)); refine blk_far ?_ NB847_885.out _; (with_reducible repeat (first | refine blk_drewN ?_ _ | refine blk_drew ?_ | refine blk_alloc ?_ _)); refine blk_far ?_ NB847_885.out _; (with_reducible repeat (first | refine blk_drewN ?_ _ | refine blk_drew ?_ | refine blk_alloc ?_ _)); refine blk_far ?_ NB847_885.out _; (with_reducible repeat (first | refine blk_drewN ?_ _ | refine blk_drew ?_ | refine blk_alloc ?_ _)); refine blk_far ?_ NB847_885.out _; (with_reducible repeat (first | refine blk_drewN ?_ _ | refine blk_drew ?_ | refine blk_alloc ?_ _)); exact BK847.out), (by (with_reducible repeat (first | refine blk_drewN ?_ _ | refine blk_drew ?_ | refine blk_alloc ?_ _)); refine blk_far ?_ NB848_885.out _; (with_reducible repeat (first | refine blk_drewN ?_ _ | refine blk_drew ?_ | refine blk_alloc ?_ _)); refine blk_far ?_ NB848_885.out _; (with_reducible repeat (first | refine blk_drewN ?_ _ | refine blk_drew ?_ | refine blk_alloc ?_ _)); refine blk_far ?_ NB848_885.out _; (with_reducible repeat (first | refine blk_drewN ?_ _ | refine blk_drew ?_ | refine blk_alloc ?_ _)); refine blk_far ?_ NB848_885.out _; (with_reducible repeat (first | refine blk_drewN ?_ _ | refine blk_drew ?_ | refine blk_alloc ?_ _)); exact BK848.out), (by (with_reducible repeat (first | refine blk_drewN ?_ _ | refine blk_drew ?_ | refine blk_alloc ?_ _)); refine blk_far ?_ NB849_885.out _; (with_reducible repeat (first | refine blk_drewN ?_ _ | refine blk_drew ?_ | refine blk_alloc ?_ _)); refine blk_far ?_ NB849_885.out _; (with_reducible repeat (first | refine blk_drewN ?_ _ | refine blk_drew ?_ | refine blk_alloc ?_ _)); refine blk_far ?_ NB849_885.out _; (with_reducible repeat (first | refine blk_drewN ?_ _ | refine blk_drew ?_ | refine blk_alloc ?_ _)); refine blk_far ?_ NB849_885.out _; (with_reducible repeat (first | refine blk_drewN ?_ _ | refine blk_drew ?_ | refine blk_alloc ?_ _)); exact BK849.out), (by (with_reducible repeat (first | refine blk_drewN ?_ _ | refine blk_drew ?_ | refine blk_alloc ?_ _)); refine blk_far ?_ NB867_885.out _; (with_reducible repeat (first | refine blk_drewN ?_ _ | refine blk_drew ?_ | refine blk_alloc ?_ _)); refine blk_far ?_ NB867_885.out _; (with_reducible repeat (first | refine blk_drewN ?_ _ | refine blk_drew ?_ | refine blk_alloc ?_ _)); refine blk_far ?_ NB867_885.out _; (with_reducible repeat (first | refine blk_drewN ?_ _ | refine blk_drew ?_ | refine blk_alloc ?_ _)); refine blk_far ?_ NB867_885.out _; (with_reducible repeat (first | refine blk_drewN ?_ _ | refine blk_drew ?_ | refine blk_alloc ?_ _)); exact BK867.out), (by repeat (first | (with_reducible first | exact HB.out | apply below_alloc | apply pw_below_drewN | apply below_drew1 | refine below_set ?_ GE847.out | refine below_set ?_ GE848.out | refine below_set ?_ GE849.out | refine below_set ?_ GE867.out | refine below_set ?_ GE885.out) | exact HB.out)), fun _ h1_ => absurd ((up_self b 11).symm.trans h1_) (by decide), fun _ => GW885.out, fun _ => GE885.out, fun _ => NB847_885.out, fun _ => NB885_847.out, fun _ => NB848_885.out, fun _ => NB885_848.out, fun _ => NB849_885.out, fun _ => NB885_849.out, fun _ => NB867_885.out, fun _ => NB885_867.out, fun _ => (by (with_reducible repeat (first | refine blk_drewN ?_ _ | refine blk_drew ?_ | refine blk_alloc ?_ _)); refine blk_put (cs := #[.int .i64 t880, .int .i64 t881, .int .i64 t882, .int .i64 0]) ?_ 3 _ rfl; (with_reducible repeat (first | refine blk_drewN ?_ _ | refine blk_drew ?_ | refine blk_alloc ?_ _)); refine blk_put (cs := #[.int .i64 t880, .int .i64 t881, .int .i64 0, .int .i64 0]) ?_ 2 _ rfl; (with_reducible repeat (first | refine blk_drewN ?_ _ | refine blk_drew ?_ | refine blk_alloc ?_ _)); refine blk_put (cs := #[.int .i64 t880, .int .i64 0, .int .i64 0, .int .i64 0]) ?_ 1 _ rfl; (with_reducible repeat (first | refine blk_drewN ?_ _ | refine blk_drew ?_ | refine blk_alloc ?_ _)); refine blk_put (cs := #[.int .i64 0, .int .i64 0, .int .i64 0, .int .i64 0]) ?_ 0 _ rfl; (with_reducible repeat (first | refine blk_drewN ?_ _ | refine blk_drew ?_ | refine blk_alloc ?_ _)); exact BK885.out), Q_X10_⟩
    refine steps_cons ?_ ?_
    · rintro b a w' ⟨gb885, m10_, ha, Q_BK847, Q_BK848, Q_BK849, Q_BK867, Q_HB, Q_BK885, Q_GW885, Q_GE885, Q_NB847_885, Q_NB885_847, Q_NB848_885, Q_NB885_848, Q_NB849_885, Q_NB885_849, Q_NB867_885, Q_NB885_867, Q_BK885_e11, Q_X10_⟩ hb_ hon hoff
      refine ⟨_, rfl, fun K hK => ?_⟩
      have e30 : a.tmps[30]? = some (.bool t884) := by rw [ha]; exact putSel_on (e := (9, 30, .bool t884)) 9 rfl rfl (hon 9 (by kernel_rfl)) rfl
      replace ha := Aside0.mk ha
      have BK847 := Aside0.mk Q_BK847
      have BK848 := Aside0.mk Q_BK848
      have BK849 := Aside0.mk Q_BK849
      have BK867 := Aside0.mk Q_BK867
      have HB := Aside0.mk Q_HB
      have GW885 := Aside0.mk (Q_GW885 (hon 10 (by kernel_rfl)))
      have GE885 := Aside0.mk (Q_GE885 (hon 10 (by kernel_rfl)))
      have NB847_885 := Aside0.mk (Q_NB847_885 (hon 10 (by kernel_rfl)))
      have NB885_847 := Aside0.mk (Q_NB885_847 (hon 10 (by kernel_rfl)))
      have NB848_885 := Aside0.mk (Q_NB848_885 (hon 10 (by kernel_rfl)))
      have NB885_848 := Aside0.mk (Q_NB885_848 (hon 10 (by kernel_rfl)))
      have NB849_885 := Aside0.mk (Q_NB849_885 (hon 10 (by kernel_rfl)))
      have NB885_849 := Aside0.mk (Q_NB885_849 (hon 10 (by kernel_rfl)))
      have NB867_885 := Aside0.mk (Q_NB867_885 (hon 10 (by kernel_rfl)))
      have NB885_867 := Aside0.mk (Q_NB885_867 (hon 10 (by kernel_rfl)))
      have BK885 := Aside0.mk (Q_BK885_e11 (hon 11 (by kernel_rfl)))
      refine value_ (w1 := w') (v := .bool t884) (by rfl) rfl ?_ ?_
      · go_simp
        (try simp only [i64_w])
        try rfl
      refine hK.out _ _ ⟨gb885, m10_, (by rw [ha.out]; exact putSel_upk 11 hb_ rfl rfl rfl), Q_BK847, Q_BK848, Q_BK849, Q_BK867, Q_HB, fun _ h1_ => absurd ((hon 11 (by kernel_rfl)).symm.trans h1_) (by decide), Q_GW885, Q_GE885, Q_NB847_885, Q_NB885_847, Q_NB848_885, Q_NB885_848, Q_NB849_885, Q_NB885_849, Q_NB867_885, Q_NB885_867, Q_BK885_e11, Q_X10_⟩
    exact steps_nil
  rintro b a w37 hall ⟨gb885, m10_, ha, Q_BK847, Q_BK848, Q_BK849, Q_BK867, Q_HB, Q_BK885, Q_GW885, Q_GE885, Q_NB847_885, Q_NB885_847, Q_NB848_885, Q_NB885_848, Q_NB849_885, Q_NB885_849, Q_NB867_885, Q_NB885_867, Q_BK885_e11, Q_X10_⟩
  clear BK847 BK848 BK849 BK867 HB
  have hb0_ := hall 0 (by kernel_rfl)
  have hb1_ := hall 1 (by kernel_rfl)
  have hb2_ := hall 2 (by kernel_rfl)
  have hb3_ := hall 3 (by kernel_rfl)
  have hb4_ := hall 4 (by kernel_rfl)
  have hb5_ := hall 5 (by kernel_rfl)
  have hb6_ := hall 6 (by kernel_rfl)
  have hb7_ := hall 7 (by kernel_rfl)
  have hb8_ := hall 8 (by kernel_rfl)
  have hb9_ := hall 9 (by kernel_rfl)
  have hb10_ := hall 10 (by kernel_rfl)
  have hb11_ := hall 11 (by kernel_rfl)
  have hb12_ := hall 12 (by kernel_rfl)
  subst ha
  obtain rfl := Q_X10_ hb10_
  simp only [putSel, hb0_, hb1_, hb2_, hb3_, hb4_, hb5_, hb6_, hb7_, hb8_, hb9_, hb10_, hb11_, hb12_, if_true, Act.put, List.setIfInBounds_toArray, List.set_cons_zero, List.set_cons_succ]
  have BK847 := Aside0.mk Q_BK847
  clear Q_BK847
  have BK848 := Aside0.mk Q_BK848
  clear Q_BK848
  have BK849 := Aside0.mk Q_BK849
  clear Q_BK849
  have BK867 := Aside0.mk Q_BK867
  clear Q_BK867
  have HB := Aside0.mk Q_HB
  clear Q_HB
  clear Q_BK885
  have GW885 := Aside0.mk (Q_GW885 hb10_)
  clear Q_GW885
  have GE885 := Aside0.mk (Q_GE885 hb10_)
  clear Q_GE885
  have NB847_885 := Aside0.mk (Q_NB847_885 hb10_)
  clear Q_NB847_885
  have NB885_847 := Aside0.mk (Q_NB885_847 hb10_)
  clear Q_NB885_847
  have NB848_885 := Aside0.mk (Q_NB848_885 hb10_)
  clear Q_NB848_885
  have NB885_848 := Aside0.mk (Q_NB885_848 hb10_)
  clear Q_NB885_848
  have NB849_885 := Aside0.mk (Q_NB849_885 hb10_)
  clear Q_NB849_885
  have NB885_849 := Aside0.mk (Q_NB885_849 hb10_)
  clear Q_NB885_849
  have NB867_885 := Aside0.mk (Q_NB867_885 hb10_)
  clear Q_NB867_885
  have NB885_867 := Aside0.mk (Q_NB885_867 hb10_)
  clear Q_NB885_867
  have BK885 := Aside0.mk (Q_BK885_e11 hb11_)
  clear Q_BK885_e11
  clear hall hb0_ hb1_ hb2_ hb3_ hb4_ hb5_ hb6_ hb7_ hb8_ hb9_ hb10_ hb11_ hb12_
  go_upto_region 3 with (fail)
  go_cut [39] (fun v39 wc => ∃ (kq : Nat) (x39_11 : Bool), v39 = .bool x39_11 ∧ Aside0 (laws_FnExactMeet3.j0 kq x39_11 = some r) ∧ Aside0 (kq ≤ k) ∧ Aside0 (wc.heap[gb847]? = some (.cells #[.int .i64 a0_0, .int .i64 a0_1, .int .i64 a0_2, .int .i64 a0_3] 36 (0, 0))) ∧ Aside0 (wc.heap[gb848]? = some (.cells #[.int .i64 a1_0, .int .i64 a1_1, .int .i64 a1_2, .int .i64 a1_3] 36 (0, 0))) ∧ Aside0 (wc.heap[gb849]? = some (.cells #[.int .i64 a2_0, .int .i64 a2_1, .int .i64 a2_2, .int .i64 a2_3] 36 (0, 0))) ∧ Aside0 (wc.heap[gb867]? = some (.cells #[.int .i64 t862, .int .i64 t863, .int .i64 t864, .int .i64 t865] 32 (0, 0))) ∧ Aside0 (wc.heap[gb885]? = some (.cells #[.int .i64 t880, .int .i64 t881, .int .i64 t882, .int .i64 t883] 32 (0, 0))) ∧ Aside0 (Below w.heap.size w wc))
  case first =>
    have H := HC12.out
    clear HC12
    replace H := Option.bind_eq_some_iff.mp H
    obtain ⟨t886, A380, H⟩ := H
    replace H : (if t886 = true then (laws_FnExactMeet3.j0 k (t884 != t866)) else (laws_FnExactMeet3.j0 k true)) = some r := H
    have A38 := Aside0.mk A380
    clear A380
    by_cases c39 : t886 = true
    · subst c39
      have H1 : (laws_FnExactMeet3.j0 k (t884 != t866)) = some r := by rw [if_pos rfl] at H; exact H
      clear H
      have H := H1
      clear H1
      have H' := Aside0.mk H
      clear H
      have hnb40 := NB885_847.out
      have hnc40 := NB847_885.out
      have hnb41 := NB885_848.out
      have hnc41 := NB848_885.out
      have hnb42 := NB885_849.out
      have hnc42 := NB849_885.out
      have hnb43 := NB885_867.out
      have hnc43 := NB867_885.out
      have hcz44_0 : w37.cell? ⟨gb885, 0, none⟩ = some (.int .i64 t880) := (blk_cell BK885.out 0).trans rfl
      have hcz44_1 : w37.cell? ⟨gb885, 1, none⟩ = some (.int .i64 t881) := (blk_cell BK885.out 1).trans rfl
      have hcz44_2 : w37.cell? ⟨gb885, 2, none⟩ = some (.int .i64 t882) := (blk_cell BK885.out 2).trans rfl
      have hcz44_3 : w37.cell? ⟨gb885, 3, none⟩ = some (.int .i64 t883) := (blk_cell BK885.out 3).trans rfl
      have hfz44_0 := blk_frozen BK885.out 0
      have hfz44_1 := blk_frozen BK885.out 1
      have hfz44_2 := blk_frozen BK885.out 2
      have hfz44_3 := blk_frozen BK885.out 3
      have hnb45 := NB867_847.out
      have hnc45 := NB847_867.out
      have hnb46 := NB867_848.out
      have hnc46 := NB848_867.out
      have hnb47 := NB867_849.out
      have hnc47 := NB849_867.out
      have hcz48_0 : w37.cell? ⟨gb867, 0, none⟩ = some (.int .i64 t862) := (blk_cell BK867.out 0).trans rfl
      have hcz48_1 : w37.cell? ⟨gb867, 1, none⟩ = some (.int .i64 t863) := (blk_cell BK867.out 1).trans rfl
      have hcz48_2 : w37.cell? ⟨gb867, 2, none⟩ = some (.int .i64 t864) := (blk_cell BK867.out 2).trans rfl
      have hcz48_3 : w37.cell? ⟨gb867, 3, none⟩ = some (.int .i64 t865) := (blk_cell BK867.out 3).trans rfl
      have hfz48_0 := blk_frozen BK867.out 0
      have hfz48_1 := blk_frozen BK867.out 1
      have hfz48_2 := blk_frozen BK867.out 2
      have hfz48_3 := blk_frozen BK867.out 3
      go_wp2_with (first | ((with_reducible refine gate_callee (f := 65) rfl ?_); refine goesL_ (some 33) rfl rfl Try.func65 (by kernel_rfl) rfl #[.agg #[.int .i64 t880, .int .i64 t881, .int .i64 t882, .int .i64 t883], .agg #[.int .i64 t862, .int .i64 t863, .int .i64 t864, .int .i64 t865]] rfl (by (try simp only [List.map_toArray, List.map_cons, List.map_nil]); first | done | rfl | (simp only [List.length_drop, List.length_take]; rfl)) ?_; (with_reducible refine (laws_eqSpot.calls t880 t881 t882 t883 t862 t863 t864 t865 true _ A38.out).mono ?_); rintro e w49 ⟨rfl, hb⟩; refine ⟨_, rfl, ?_⟩; have n0_ := Aside0.mk (blk_below (g := gb847) (o := .cells #[.int .i64 a0_0, .int .i64 a0_1, .int .i64 a0_2, .int .i64 a0_3] 36 (0, 0)) (by (with_reducible repeat (first | refine blk_drewN ?_ _ | refine blk_drew ?_ | refine blk_alloc ?_ _)); exact BK847.out) hb); have n1_ := Aside0.mk (blk_below (g := gb848) (o := .cells #[.int .i64 a1_0, .int .i64 a1_1, .int .i64 a1_2, .int .i64 a1_3] 36 (0, 0)) (by (with_reducible repeat (first | refine blk_drewN ?_ _ | refine blk_drew ?_ | refine blk_alloc ?_ _)); exact BK848.out) hb); have n2_ := Aside0.mk (blk_below (g := gb849) (o := .cells #[.int .i64 a2_0, .int .i64 a2_1, .int .i64 a2_2, .int .i64 a2_3] 36 (0, 0)) (by (with_reducible repeat (first | refine blk_drewN ?_ _ | refine blk_drew ?_ | refine blk_alloc ?_ _)); exact BK849.out) hb); have n3_ := Aside0.mk (blk_below (g := gb867) (o := .cells #[.int .i64 t862, .int .i64 t863, .int .i64 t864, .int .i64 t865] 32 (0, 0)) (by (with_reducible repeat (first | refine blk_drewN ?_ _ | refine blk_drew ?_ | refine blk_alloc ?_ _)); exact BK867.out) hb); have n4_ := Aside0.mk (blk_below (g := gb885) (o := .cells #[.int .i64 t880, .int .i64 t881, .int .i64 t882, .int .i64 t883] 32 (0, 0)) (by (with_reducible repeat (first | refine blk_drewN ?_ _ | refine blk_drew ?_ | refine blk_alloc ?_ _)); exact BK885.out) hb); have n5_ := Aside0.mk (below_step (by repeat (first | (with_reducible first | exact HB.out | apply below_alloc | apply pw_below_drewN | apply below_drew1 | refine below_set ?_ GE847.out | refine below_set ?_ GE848.out | refine below_set ?_ GE849.out | refine below_set ?_ GE867.out | refine below_set ?_ GE885.out) | exact HB.out)) hb); clear BK847; clear BK848; clear BK849; clear BK867; clear BK885; clear HB; have BK847 := n0_; have BK848 := n1_; have BK849 := n2_; have BK867 := n3_; have BK885 := n4_; have HB := n5_; clear n0_ n1_ n2_ n3_ n4_ n5_; (try clear hb); (try clear hb2); (try clear hk); (try clear hi)))
      go_meet
      case rel => exact ⟨_, ((t884 != t866)), (by first | rfl | (simp; done) | (simp [*]; done) | (simp [wrap64]; done)), H', ⟨by first | omega | exact Nat.le_refl _⟩, ⟨by (with_reducible repeat (first | refine blk_drewN ?_ _ | refine blk_drew ?_ | refine blk_alloc ?_ _)); exact BK847.out⟩, ⟨by (with_reducible repeat (first | refine blk_drewN ?_ _ | refine blk_drew ?_ | refine blk_alloc ?_ _)); exact BK848.out⟩, ⟨by (with_reducible repeat (first | refine blk_drewN ?_ _ | refine blk_drew ?_ | refine blk_alloc ?_ _)); exact BK849.out⟩, ⟨by (with_reducible repeat (first | refine blk_drewN ?_ _ | refine blk_drew ?_ | refine blk_alloc ?_ _)); exact BK867.out⟩, ⟨by (with_reducible repeat (first | refine blk_drewN ?_ _ | refine blk_drew ?_ | refine blk_alloc ?_ _)); exact BK885.out⟩, ⟨by repeat (first | (with_reducible first | exact HB.out | apply below_alloc | apply pw_below_drewN | apply below_drew1 | refine below_set ?_ GE847.out | refine below_set ?_ GE848.out | refine below_set ?_ GE849.out | refine below_set ?_ GE867.out | refine below_set ?_ GE885.out) | exact HB.out)⟩⟩
    · replace c39 := Bool.eq_false_iff.mpr c39
      subst c39
      have H1 : (laws_FnExactMeet3.j0 k true) = some r := by rw [if_neg (show ¬ (false = true) by decide)] at H; exact H
      clear H
      have H := H1
      clear H1
      have H' := Aside0.mk H
      clear H
      have hnb50 := NB885_847.out
      have hnc50 := NB847_885.out
      have hnb51 := NB885_848.out
      have hnc51 := NB848_885.out
      have hnb52 := NB885_849.out
      have hnc52 := NB849_885.out
      have hnb53 := NB885_867.out
      have hnc53 := NB867_885.out
      have hcz54_0 : w37.cell? ⟨gb885, 0, none⟩ = some (.int .i64 t880) := (blk_cell BK885.out 0).trans rfl
      have hcz54_1 : w37.cell? ⟨gb885, 1, none⟩ = some (.int .i64 t881) := (blk_cell BK885.out 1).trans rfl
      have hcz54_2 : w37.cell? ⟨gb885, 2, none⟩ = some (.int .i64 t882) := (blk_cell BK885.out 2).trans rfl
      have hcz54_3 : w37.cell? ⟨gb885, 3, none⟩ = some (.int .i64 t883) := (blk_cell BK885.out 3).trans rfl
      have hfz54_0 := blk_frozen BK885.out 0
      have hfz54_1 := blk_frozen BK885.out 1
      have hfz54_2 := blk_frozen BK885.out 2
      have hfz54_3 := blk_frozen BK885.out 3
      have hnb55 := NB867_847.out
      have hnc55 := NB847_867.out
      have hnb56 := NB867_848.out
      have hnc56 := NB848_867.out
      have hnb57 := NB867_849.out
      have hnc57 := NB849_867.out
      have hcz58_0 : w37.cell? ⟨gb867, 0, none⟩ = some (.int .i64 t862) := (blk_cell BK867.out 0).trans rfl
      have hcz58_1 : w37.cell? ⟨gb867, 1, none⟩ = some (.int .i64 t863) := (blk_cell BK867.out 1).trans rfl
      have hcz58_2 : w37.cell? ⟨gb867, 2, none⟩ = some (.int .i64 t864) := (blk_cell BK867.out 2).trans rfl
      have hcz58_3 : w37.cell? ⟨gb867, 3, none⟩ = some (.int .i64 t865) := (blk_cell BK867.out 3).trans rfl
      have hfz58_0 := blk_frozen BK867.out 0
      have hfz58_1 := blk_frozen BK867.out 1
      have hfz58_2 := blk_frozen BK867.out 2
      have hfz58_3 := blk_frozen BK867.out 3
      go_wp2_with (first | ((with_reducible refine gate_callee (f := 65) rfl ?_); refine goesL_ (some 33) rfl rfl Try.func65 (by kernel_rfl) rfl #[.agg #[.int .i64 t880, .int .i64 t881, .int .i64 t882, .int .i64 t883], .agg #[.int .i64 t862, .int .i64 t863, .int .i64 t864, .int .i64 t865]] rfl (by (try simp only [List.map_toArray, List.map_cons, List.map_nil]); first | done | rfl | (simp only [List.length_drop, List.length_take]; rfl)) ?_; (with_reducible refine (laws_eqSpot.calls t880 t881 t882 t883 t862 t863 t864 t865 false _ A38.out).mono ?_); rintro e w59 ⟨rfl, hb⟩; refine ⟨_, rfl, ?_⟩; have n0_ := Aside0.mk (blk_below (g := gb847) (o := .cells #[.int .i64 a0_0, .int .i64 a0_1, .int .i64 a0_2, .int .i64 a0_3] 36 (0, 0)) (by (with_reducible repeat (first | refine blk_drewN ?_ _ | refine blk_drew ?_ | refine blk_alloc ?_ _)); exact BK847.out) hb); have n1_ := Aside0.mk (blk_below (g := gb848) (o := .cells #[.int .i64 a1_0, .int .i64 a1_1, .int .i64 a1_2, .int .i64 a1_3] 36 (0, 0)) (by (with_reducible repeat (first | refine blk_drewN ?_ _ | refine blk_drew ?_ | refine blk_alloc ?_ _)); exact BK848.out) hb); have n2_ := Aside0.mk (blk_below (g := gb849) (o := .cells #[.int .i64 a2_0, .int .i64 a2_1, .int .i64 a2_2, .int .i64 a2_3] 36 (0, 0)) (by (with_reducible repeat (first | refine blk_drewN ?_ _ | refine blk_drew ?_ | refine blk_alloc ?_ _)); exact BK849.out) hb); have n3_ := Aside0.mk (blk_below (g := gb867) (o := .cells #[.int .i64 t862, .int .i64 t863, .int .i64 t864, .int .i64 t865] 32 (0, 0)) (by (with_reducible repeat (first | refine blk_drewN ?_ _ | refine blk_drew ?_ | refine blk_alloc ?_ _)); exact BK867.out) hb); have n4_ := Aside0.mk (blk_below (g := gb885) (o := .cells #[.int .i64 t880, .int .i64 t881, .int .i64 t882, .int .i64 t883] 32 (0, 0)) (by (with_reducible repeat (first | refine blk_drewN ?_ _ | refine blk_drew ?_ | refine blk_alloc ?_ _)); exact BK885.out) hb); have n5_ := Aside0.mk (below_step (by repeat (first | (with_reducible first | exact HB.out | apply below_alloc | apply pw_below_drewN | apply below_drew1 | refine below_set ?_ GE847.out | refine below_set ?_ GE848.out | refine below_set ?_ GE849.out | refine below_set ?_ GE867.out | refine below_set ?_ GE885.out) | exact HB.out)) hb); clear BK847; clear BK848; clear BK849; clear BK867; clear BK885; clear HB; have BK847 := n0_; have BK848 := n1_; have BK849 := n2_; have BK867 := n3_; have BK885 := n4_; have HB := n5_; clear n0_ n1_ n2_ n3_ n4_ n5_; (try clear hb); (try clear hb2); (try clear hk); (try clear hi)))
      go_meet
      case rel => exact ⟨_, (true), (by first | rfl | (simp; done) | (simp [*]; done) | (simp [wrap64]; done)), H', ⟨by first | omega | exact Nat.le_refl _⟩, ⟨by (with_reducible repeat (first | refine blk_drewN ?_ _ | refine blk_drew ?_ | refine blk_alloc ?_ _)); exact BK847.out⟩, ⟨by (with_reducible repeat (first | refine blk_drewN ?_ _ | refine blk_drew ?_ | refine blk_alloc ?_ _)); exact BK848.out⟩, ⟨by (with_reducible repeat (first | refine blk_drewN ?_ _ | refine blk_drew ?_ | refine blk_alloc ?_ _)); exact BK849.out⟩, ⟨by (with_reducible repeat (first | refine blk_drewN ?_ _ | refine blk_drew ?_ | refine blk_alloc ?_ _)); exact BK867.out⟩, ⟨by (with_reducible repeat (first | refine blk_drewN ?_ _ | refine blk_drew ?_ | refine blk_alloc ?_ _)); exact BK885.out⟩, ⟨by repeat (first | (with_reducible first | exact HB.out | apply below_alloc | apply pw_below_drewN | apply below_drew1 | refine below_set ?_ GE847.out | refine below_set ?_ GE848.out | refine below_set ?_ GE849.out | refine below_set ?_ GE867.out | refine below_set ?_ GE885.out) | exact HB.out)⟩⟩
  case rest =>
    clear HC12
    try clear c1
    try clear c2
    try clear p2
    try clear c3
    try clear c4
    try clear c5
    try clear c6
    try clear p6
    try clear c36
    try clear c39
    try clear c40
    try clear c41
    try clear c42
    try clear c43
    try clear c45
    try clear c46
    try clear c47
    try clear c50
    try clear c51
    try clear c52
    try clear c53
    try clear c55
    try clear c56
    try clear c57
    try clear hcz44_0
    try clear hcz44_1
    try clear hcz44_2
    try clear hcz44_3
    try clear hcz48_0
    try clear hcz48_1
    try clear hcz48_2
    try clear hcz48_3
    try clear hcz54_0
    try clear hcz54_1
    try clear hcz54_2
    try clear hcz54_3
    try clear hcz58_0
    try clear hcz58_1
    try clear hcz58_2
    try clear hcz58_3
    try clear hfz44_0
    try clear hfz44_1
    try clear hfz44_2
    try clear hfz44_3
    try clear hfz48_0
    try clear hfz48_1
    try clear hfz48_2
    try clear hfz48_3
    try clear hfz54_0
    try clear hfz54_1
    try clear hfz54_2
    try clear hfz54_3
    try clear hfz58_0
    try clear hfz58_1
    try clear hfz58_2
    try clear hfz58_3
    obtain ⟨kq, x39_11, rfl, HA, HJ11, BK847, BK848, BK849, BK867, BK885, HB⟩ := hcut
    cases kq with
    | zero => exact absurd HA.out (by simp [laws_FnExactMeet3.j0])
    | succ kj11 =>
      have H := HA.out
      clear HA
      simp only [laws_FnExactMeet3.j0] at H
      by_cases c60 : x39_11 = true
      · subst c60
        have H1 : (some false) = some r := by rw [if_pos rfl] at H; exact H
        clear H
        have H := H1
        clear H1
        obtain rfl := Option.some.inj H
        go_wp2
        go_ret
        exact ⟨by first | rfl | (simp [errW_none, errW_some] <;> rfl) | (simp [*, errW_none, errW_some] <;> rfl), by repeat (first | (with_reducible first | exact HB.out | apply below_alloc | apply pw_below_drewN | apply below_drew1 | refine below_set ?_ GE847.out | refine below_set ?_ GE848.out | refine below_set ?_ GE849.out | refine below_set ?_ GE867.out | refine below_set ?_ GE885.out) | exact HB.out)⟩
      · replace c60 := Bool.eq_false_iff.mpr c60
        subst c60
        have H1 : (some true) = some r := by rw [if_neg (show ¬ (false = true) by decide)] at H; exact H
        clear H
        have H := H1
        clear H1
        obtain rfl := Option.some.inj H
        go_wp2
        go_ret
        exact ⟨by first | rfl | (simp [errW_none, errW_some] <;> rfl) | (simp [*, errW_none, errW_some] <;> rfl), by repeat (first | (with_reducible first | exact HB.out | apply below_alloc | apply pw_below_drewN | apply below_drew1 | refine below_set ?_ GE847.out | refine below_set ?_ GE848.out | refine below_set ?_ GE849.out | refine below_set ?_ GE867.out | refine below_set ?_ GE885.out) | exact HB.out)⟩

end Go.Proofs.Ytmcjkdbegkdhoaa.Print
