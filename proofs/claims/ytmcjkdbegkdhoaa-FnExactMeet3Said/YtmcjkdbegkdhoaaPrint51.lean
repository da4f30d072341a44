-- Printed by a program of the session (mkprinter.py, over the kit's print); Lean checks it.
import Derived.Test.YtmcjkdbegkdhoaaPrint0
import Derived.Test.YtmcjkdbegkdhoaaPrint9
import Derived.Test.YtmcjkdbegkdhoaaPrint50
namespace Go.Proofs.Ytmcjkdbegkdhoaa.Print
open Go.RowKit Go.Proofs.YtmcjkdbegkdhoaaW.PrintWords Go.Proofs.YtmcjkdbegkdhoaaW.PrintLast Go.Proofs.YtmcjkdbegkdhoaaW.PrintMore
attribute [local go_sem] max2_int min2_int max_two min_two max_three min_three max_four min_four   -- for this text's walks alone
set_option linter.unusedVariables false
set_option linter.unusedSimpArgs false

/-! ### spec_Meet3: function 63 -/
def spec_Meet3.j0 : Nat → Bool → Int → Int → Int → Int → Int → Int → Int → Int → Int → Int → Int → Int → Option (Int × Int × Int × Int × Bool)
  | 0, _, _, _, _, _, _, _, _, _, _, _, _, _ => none
  | k + 1, x20, x810000, x810001, x810002, x810003, x811000, x811001, x811002, x811003, x812000, x812001, x812002, x812003 => if x20 = true then (some (0, 0, 0, 0, false)) else ((spec_l5Meet.f k x810000 x810001 x810002 x810003 x811000 x811001 x811002 x811003 x812000 x812001 x812002 x812003).bind fun bt816 => (some (bt816.1, bt816.2.1, bt816.2.2.1, bt816.2.2.2.1, bt816.2.2.2.2)))
def spec_Meet3.f (k : Nat) (a0_0 : Int) (a0_1 : Int) (a0_2 : Int) (a0_3 : Int) (a1_0 : Int) (a1_1 : Int) (a1_2 : Int) (a1_3 : Int) (a2_0 : Int) (a2_1 : Int) (a2_2 : Int) (a2_3 : Int) : Option (Int × Int × Int × Int × Bool) := (spec_PlaneOk.f k a0_0 a0_1 a0_2 a0_3).bind fun t813 => (if t813 = true then ((spec_PlaneOk.f k a1_0 a1_1 a1_2 a1_3).bind fun t814 => (if t814 = true then ((spec_PlaneOk.f k a2_0 a2_1 a2_2 a2_3).bind fun t815 => (spec_Meet3.j0 k (!t815) a0_0 a0_1 a0_2 a0_3 a1_0 a1_1 a1_2 a1_3 a2_0 a2_1 a2_2 a2_3)) else (spec_Meet3.j0 k true a0_0 a0_1 a0_2 a0_3 a1_0 a1_1 a1_2 a1_3 a2_0 a2_1 a2_2 a2_3))) else (spec_Meet3.j0 k true a0_0 a0_1 a0_2 a0_3 a1_0 a1_1 a1_2 a1_3 a2_0 a2_1 a2_2 a2_3))
theorem spec_Meet3.mono_l : ∀ k, (∀ y0 y1 y2 y3 y4 y5 y6 y7 y8 y9 y10 y11 y12, LeO (spec_Meet3.j0 k y0 y1 y2 y3 y4 y5 y6 y7 y8 y9 y10 y11 y12) (spec_Meet3.j0 (k + 1) y0 y1 y2 y3 y4 y5 y6 y7 y8 y9 y10 y11 y12))
  | 0 => fun _ _ _ _ _ _ _ _ _ _ _ _ _ r h => by simp [spec_Meet3.j0] at h
  | k + 1 => by
    have ih0 := spec_Meet3.mono_l k
    · intro y0 y1 y2 y3 y4 y5 y6 y7 y8 y9 y10 y11 y12
      unfold spec_Meet3.j0
      repeat' first
      | (with_reducible exact ih0 _ _ _ _ _ _ _ _ _ _ _ _ _)
      | (with_reducible exact spec_PlaneOk.mono _ _ _ _ _)
      | (with_reducible exact spec_l5Meet.mono _ _ _ _ _ _ _ _ _ _ _ _ _)
      | (with_reducible exact LeO.refl _)
      | (with_reducible exact LeO.none _)
      | (with_reducible refine LeO.ite ?_ ?_)
      | (with_reducible refine LeO.bind ?_ (fun _ => ?_))
      | exact ih0 _ _ _ _ _ _ _ _ _ _ _ _ _
      | exact spec_PlaneOk.mono _ _ _ _ _
      | exact spec_l5Meet.mono _ _ _ _ _ _ _ _ _ _ _ _ _
      | exact LeO.none _
      | refine LeO.ite ?_ ?_
      | refine LeO.bind ?_ (fun _ => ?_)
theorem spec_Meet3.mono : ∀ a0 a1 a2 a3 a4 a5 a6 a7 a8 a9 a10 a11 k, LeO (spec_Meet3.f k a0 a1 a2 a3 a4 a5 a6 a7 a8 a9 a10 a11) (spec_Meet3.f (k + 1) a0 a1 a2 a3 a4 a5 a6 a7 a8 a9 a10 a11) := by
  intro a0 a1 a2 a3 a4 a5 a6 a7 a8 a9 a10 a11 k
  have ih0 := spec_Meet3.mono_l k
  unfold spec_Meet3.f
  repeat' first
      | (with_reducible exact ih0 _ _ _ _ _ _ _ _ _ _ _ _ _)
      | (with_reducible exact spec_PlaneOk.mono _ _ _ _ _)
      | (with_reducible exact spec_l5Meet.mono _ _ _ _ _ _ _ _ _ _ _ _ _)
      | (with_reducible exact LeO.refl _)
      | (with_reducible exact LeO.none _)
      | (with_reducible refine LeO.ite ?_ ?_)
      | (with_reducible refine LeO.bind ?_ (fun _ => ?_))
      | exact ih0 _ _ _ _ _ _ _ _ _ _ _ _ _
      | exact spec_PlaneOk.mono _ _ _ _ _
      | exact spec_l5Meet.mono _ _ _ _ _ _ _ _ _ _ _ _ _
      | exact LeO.none _
      | refine LeO.ite ?_ ?_
      | refine LeO.bind ?_ (fun _ => ?_)
set_option maxHeartbeats 8000000 in
set_option maxRecDepth 100000 in
theorem spec_Meet3.calls (k : Nat) (a0_0 : Int) (a0_1 : Int) (a0_2 : Int) (a0_3 : Int) (a1_0 : Int) (a1_1 : Int) (a1_2 : Int) (a1_3 : Int) (a2_0 : Int) (a2_1 : Int) (a2_2 : Int) (a2_3 : Int) (r1 : Int) (r2 : Int) (r3 : Int) (r4 : Int) (r5 : Bool) (w : World) (h : spec_Meet3.f k a0_0 a0_1 a0_2 a0_3 a1_0 a1_1 a1_2 a1_3 a2_0 a2_1 a2_2 a2_3 = some (r1, r2, r3, r4, r5)) :
    Calls Try.prog 63 #[.agg #[.int .i64 a0_0, .int .i64 a0_1, .int .i64 a0_2, .int .i64 a0_3], .agg #[.int .i64 a1_0, .int .i64 a1_1, .int .i64 a1_2, .int .i64 a1_3], .agg #[.int .i64 a2_0, .int .i64 a2_1, .int .i64 a2_2, .int .i64 a2_3]] w fun e w' => e = .returned (.tuple #[.agg #[.int .i64 r1, .int .i64 r2, .int .i64 r3, .int .i64 r4], .bool r5]) ∧ Below w.heap.size w w' := by
  have hu38 := Try.underlying38
  have hu32 := Try.underlying32
  have HB := Aside0.mk (Below.refl w.heap.size w)
  have H : ((spec_PlaneOk.f k a0_0 a0_1 a0_2 a0_3).bind fun t813 => (if t813 = true then ((spec_PlaneOk.f k a1_0 a1_1 a1_2 a1_3).bind fun t814 => (if t814 = true then ((spec_PlaneOk.f k a2_0 a2_1 a2_2 a2_3).bind fun t815 => (spec_Meet3.j0 k (!t815) a0_0 a0_1 a0_2 a0_3 a1_0 a1_1 a1_2 a1_3 a2_0 a2_1 a2_2 a2_3)) else (spec_Meet3.j0 k true a0_0 a0_1 a0_2 a0_3 a1_0 a1_1 a1_2 a1_3 a2_0 a2_1 a2_2 a2_3))) else (spec_Meet3.j0 k true a0_0 a0_1 a0_2 a0_3 a1_0 a1_1 a1_2 a1_3 a2_0 a2_1 a2_2 a2_3))) = some (r1, r2, r3, r4, r5) := h
  clear h
  have HC4 := Aside0.mk H
  clear H
  go_enter Try.func63, Try.ntmps63
  go_upto_region 1 with (first | ((with_reducible refine gate_dst (N := 3) rfl ?_); refine box_event ?hg (N := 3) ?hd (cs := #[.int .i64 a0_0, .int .i64 a0_1, .int .i64 a0_2, .int .i64 a0_3]) (t := 38) ?hr ?_; (case hd => rfl); (case hg => rfl); (case hr => first | (go_simp; done) | (go_simp; rfl)); intro gb809 hg w5 hbox hb; have n0_ := Aside0.mk (below_step (by repeat (first | (with_reducible first | exact HB.out | apply below_alloc | apply pw_below_drewN | apply below_drew1) | exact HB.out)) hb); have n1_ := Aside0.mk (hbox); have n2_ := Aside0.mk ((by rw [hg]; exact (below_size (by repeat (first | (with_reducible first | exact HB.out | apply below_alloc | apply pw_below_drewN | apply below_drew1) | exact HB.out))) : w.heap.size ≤ gb809)); have n3_ := Aside0.mk ((by rw [hg]; exact (below_size (by repeat (first | (with_reducible first | exact HB.out | apply below_alloc | apply pw_below_drewN | apply below_drew1) | exact HB.out))) : w.heap.size ≤ gb809)); clear HB; have HB := n0_; have BK809 := n1_; have GW809 := n2_; have GE809 := n3_; clear n0_ n1_ n2_ n3_; clear hb hbox hg) | ((with_reducible refine gate_dst (N := 4) rfl ?_); refine box_event ?hg (N := 4) ?hd (cs := #[.int .i64 a1_0, .int .i64 a1_1, .int .i64 a1_2, .int .i64 a1_3]) (t := 38) ?hr ?_; (case hd => rfl); (case hg => rfl); (case hr => first | (go_simp; done) | (go_simp; rfl)); intro gb810 hg w6 hbox hb; have n0_ := Aside0.mk (blk_below (g := gb809) (o := .cells #[.int .i64 a0_0, .int .i64 a0_1, .int .i64 a0_2, .int .i64 a0_3] 38 (0, 0)) (by (with_reducible repeat (first | refine blk_drewN ?_ _ | refine blk_drew ?_ | refine blk_alloc ?_ _)); exact BK809.out) hb); have n1_ := Aside0.mk (below_step (by repeat (first | (with_reducible first | exact HB.out | apply below_alloc | apply pw_below_drewN | apply below_drew1 | refine below_set ?_ GE809.out) | exact HB.out)) hb); have n2_ := Aside0.mk (hbox); have n3_ := Aside0.mk ((by rw [hg]; exact (below_size (by repeat (first | (with_reducible first | exact HB.out | apply below_alloc | apply pw_below_drewN | apply below_drew1 | refine below_set ?_ GE809.out) | exact HB.out))) : w.heap.size ≤ gb810)); have n4_ := Aside0.mk ((by rw [hg]; exact (below_size (by repeat (first | (with_reducible first | exact HB.out | apply below_alloc | apply pw_below_drewN | apply below_drew1 | refine below_set ?_ GE809.out) | exact HB.out))) : w.heap.size ≤ gb810)); have n5_ := Aside0.mk ((by rw [hg]; exact Nat.ne_of_lt (blk_lt (g := gb809) (o := .cells #[.int .i64 a0_0, .int .i64 a0_1, .int .i64 a0_2, .int .i64 a0_3] 38 (0, 0)) (by (with_reducible repeat (first | refine blk_drewN ?_ _ | refine blk_drew ?_ | refine blk_alloc ?_ _)); exact BK809.out)) : gb809 ≠ gb810)); have n6_ := Aside0.mk ((by rw [hg]; exact Nat.ne_of_gt (blk_lt (g := gb809) (o := .cells #[.int .i64 a0_0, .int .i64 a0_1, .int .i64 a0_2, .int .i64 a0_3] 38 (0, 0)) (by (with_reducible repeat (first | refine blk_drewN ?_ _ | refine blk_drew ?_ | refine blk_alloc ?_ _)); exact BK809.out)) : gb810 ≠ gb809)); clear BK809; clear HB; have BK809 := n0_; have HB := n1_; have BK810 := n2_; have GW810 := n3_; have GE810 := n4_; have NB809_810 := n5_; have NB810_809 := n6_; clear n0_ n1_ n2_ n3_ n4_ n5_ n6_; clear hb hbox hg) | ((with_reducible refine gate_dst (N := 5) rfl ?_); refine box_event ?hg (N := 5) ?hd (cs := #[.int .i64 a2_0, .int .i64 a2_1, .int .i64 a2_2, .int .i64 a2_3]) (t := 38) ?hr ?_; (case hd => rfl); (case hg => rfl); (case hr => first | (go_simp; done) | (go_simp; rfl)); intro gb811 hg w7 hbox hb; have n0_ := Aside0.mk (blk_below (g := gb809) (o := .cells #[.int .i64 a0_0, .int .i64 a0_1, .int .i64 a0_2, .int .i64 a0_3] 38 (0, 0)) (by (with_reducible repeat (first | refine blk_drewN ?_ _ | refine blk_drew ?_ | refine blk_alloc ?_ _)); exact BK809.out) hb); have n1_ := Aside0.mk (blk_below (g := gb810) (o := .cells #[.int .i64 a1_0, .int .i64 a1_1, .int .i64 a1_2, .int .i64 a1_3] 38 (0, 0)) (by (with_reducible repeat (first | refine blk_drewN ?_ _ | refine blk_drew ?_ | refine blk_alloc ?_ _)); exact BK810.out) hb); have n2_ := Aside0.mk (below_step (by repeat (first | (with_reducible first | exact HB.out | apply below_alloc | apply pw_below_drewN | apply below_drew1 | refine below_set ?_ GE809.out | refine below_set ?_ GE810.out) | exact HB.out)) hb); have n3_ := Aside0.mk (hbox); have n4_ := Aside0.mk ((by rw [hg]; exact (below_size (by repeat (first | (with_reducible first | exact HB.out | apply below_alloc | apply pw_below_drewN | apply below_drew1 | refine below_set ?_ GE809.out | refine below_set ?_ GE810.out) | exact HB.out))) : w.heap.size ≤ gb811)); have n5_ := Aside0.mk ((by rw [hg]; exact (below_size (by repeat (first | (with_reducible first | exact HB.out | apply below_alloc | apply pw_below_drewN | apply below_drew1 | refine below_set ?_ GE809.out | refine below_set ?_ GE810.out) | exact HB.out))) : w.heap.size ≤ gb811)); have n6_ := Aside0.mk ((by rw [hg]; exact Nat.ne_of_lt (blk_lt (g := gb809) (o := .cells #[.int .i64 a0_0, .int .i64 a0_1, .int .i64 a0_2, .int .i64 a0_3] 38 (0, 0)) (by (with_reducible repeat (first | refine blk_drewN ?_ _ | refine blk_drew ?_ | refine blk_alloc ?_ _)); exact BK809.out)) : gb809 ≠ gb811)); have n7_ := Aside0.mk ((by rw [hg]; exact Nat.ne_of_gt (blk_lt (g := gb809) (o := .cells #[.int .i64 a0_0, .int .i64 a0_1, .int .i64 a0_2, .int .i64 a0_3] 38 (0, 0)) (by (with_reducible repeat (first | refine blk_drewN ?_ _ | refine blk_drew ?_ | refine blk_alloc ?_ _)); exact BK809.out)) : gb811 ≠ gb809)); have n8_ := Aside0.mk ((by rw [hg]; exact Nat.ne_of_lt (blk_lt (g := gb810) (o := .cells #[.int .i64 a1_0, .int .i64 a1_1, .int .i64 a1_2, .int .i64 a1_3] 38 (0, 0)) (by (with_reducible repeat (first | refine blk_drewN ?_ _ | refine blk_drew ?_ | refine blk_alloc ?_ _)); exact BK810.out)) : gb810 ≠ gb811)); have n9_ := Aside0.mk ((by rw [hg]; exact Nat.ne_of_gt (blk_lt (g := gb810) (o := .cells #[.int .i64 a1_0, .int .i64 a1_1, .int .i64 a1_2, .int .i64 a1_3] 38 (0, 0)) (by (with_reducible repeat (first | refine blk_drewN ?_ _ | refine blk_drew ?_ | refine blk_alloc ?_ _)); exact BK810.out)) : gb811 ≠ gb810)); clear BK809; clear BK810; clear HB; have BK809 := n0_; have BK810 := n1_; have HB := n2_; have BK811 := n3_; have GW811 := n4_; have GE811 := n5_; have NB809_811 := n6_; have NB811_809 := n7_; have NB810_811 := n8_; have NB811_810 := n9_; clear n0_ n1_ n2_ n3_ n4_ n5_ n6_ n7_ n8_ n9_; clear hb hbox hg) | ((with_reducible refine gate_dst (N := 6) rfl ?_); refine box_event ?hg (N := 6) ?hd (cs := #[.int .i64 0, .int .i64 0, .int .i64 0, .int .i64 0]) (t := 32) ?hr ?_; (case hd => rfl); (case hg => rfl); (case hr => first | (go_simp; done) | (go_simp; rfl)); intro gb812 hg w8 hbox hb; have n0_ := Aside0.mk (blk_below (g := gb809) (o := .cells #[.int .i64 a0_0, .int .i64 a0_1, .int .i64 a0_2, .int .i64 a0_3] 38 (0, 0)) (by (with_reducible repeat (first | refine blk_drewN ?_ _ | refine blk_drew ?_ | refine blk_alloc ?_ _)); exact BK809.out) hb); have n1_ := Aside0.mk (blk_below (g := gb810) (o := .cells #[.int .i64 a1_0, .int .i64 a1_1, .int .i64 a1_2, .int .i64 a1_3] 38 (0, 0)) (by (with_reducible repeat (first | refine blk_drewN ?_ _ | refine blk_drew ?_ | refine blk_alloc ?_ _)); exact BK810.out) hb); have n2_ := Aside0.mk (blk_below (g := gb811) (o := .cells #[.int .i64 a2_0, .int .i64 a2_1, .int .i64 a2_2, .int .i64 a2_3] 38 (0, 0)) (by (with_reducible repeat (first | refine blk_drewN ?_ _ | refine blk_drew ?_ | refine blk_alloc ?_ _)); exact BK811.out) hb); have n3_ := Aside0.mk (below_step (by repeat (first | (with_reducible first | exact HB.out | apply below_alloc | apply pw_below_drewN | apply below_drew1 | refine below_set ?_ GE809.out | refine below_set ?_ GE810.out | refine below_set ?_ GE811.out) | exact HB.out)) hb); have n4_ := Aside0.mk (hbox); have n5_ := Aside0.mk ((by rw [hg]; exact (below_size (by repeat (first | (with_reducible first | exact HB.out | apply below_alloc | apply pw_below_drewN | apply below_drew1 | refine below_set ?_ GE809.out | refine below_set ?_ GE810.out | refine below_set ?_ GE811.out) | exact HB.out))) : w.heap.size ≤ gb812)); have n6_ := Aside0.mk ((by rw [hg]; exact (below_size (by repeat (first | (with_reducible first | exact HB.out | apply below_alloc | apply pw_below_drewN | apply below_drew1 | refine below_set ?_ GE809.out | refine below_set ?_ GE810.out | refine below_set ?_ GE811.out) | exact HB.out))) : w.heap.size ≤ gb812)); have n7_ := Aside0.mk ((by rw [hg]; exact Nat.ne_of_lt (blk_lt (g := gb809) (o := .cells #[.int .i64 a0_0, .int .i64 a0_1, .int .i64 a0_2, .int .i64 a0_3] 38 (0, 0)) (by (with_reducible repeat (first | refine blk_drewN ?_ _ | refine blk_drew ?_ | refine blk_alloc ?_ _)); exact BK809.out)) : gb809 ≠ gb812)); have n8_ := Aside0.mk ((by rw [hg]; exact Nat.ne_of_gt (blk_lt (g := gb809) (o := .cells #[.int .i64 a0_0, .int .i64 a0_1, .int .i64 a0_2, .int .i64 a0_3] 38 (0, 0)) (by (with_reducible repeat (first | refine blk_drewN ?_ _ | refine blk_drew ?_ | refine blk_alloc ?_ _)); exact BK809.out)) : gb812 ≠ gb809)); have n9_ := Aside0.mk ((by rw [hg]; exact Nat.ne_of_lt (blk_lt (g := gb810) (o := .cells #[.int .i64 a1_0, .int .i64 a1_1, .int .i64 a1_2, .int .i64 a1_3] 38 (0, 0)) (by (with_reducible repeat (first | refine blk_drewN ?_ _ | refine blk_drew ?_ | refine blk_alloc ?_ _)); exact BK810.out)) : gb810 ≠ gb812)); have n10_ := Aside0.mk ((by rw [hg]; exact Nat.ne_of_gt (blk_lt (g := gb810) (o := .cells #[.int .i64 a1_0, .int .i64 a1_1, .int .i64 a1_2, .int .i64 a1_3] 38 (0, 0)) (by (with_reducible repeat (first | refine blk_drewN ?_ _ | refine blk_drew ?_ | refine blk_alloc ?_ _)); exact BK810.out)) : gb812 ≠ gb810)); have n11_ := Aside0.mk ((by rw [hg]; exact Nat.ne_of_lt (blk_lt (g := gb811) (o := .cells #[.int .i64 a2_0, .int .i64 a2_1, .int .i64 a2_2, .int .i64 a2_3] 38 (0, 0)) (by (with_reducible repeat (first | refine blk_drewN ?_ _ | refine blk_drew ?_ | refine blk_alloc ?_ _)); exact BK811.out)) : gb811 ≠ gb812)); have n12_ := Aside0.mk ((by rw [hg]; exact Nat.ne_of_gt (blk_lt (g := gb811) (o := .cells #[.int .i64 a2_0, .int .i64 a2_1, .int .i64 a2_2, .int .i64 a2_3] 38 (0, 0)) (by (with_reducible repeat (first | refine blk_drewN ?_ _ | refine blk_drew ?_ | refine blk_alloc ?_ _)); exact BK811.out)) : gb812 ≠ gb811)); clear BK809; clear BK810; clear BK811; clear HB; have BK809 := n0_; have BK810 := n1_; have BK811 := n2_; have HB := n3_; have BK812 := n4_; have GW812 := n5_; have GE812 := n6_; have NB809_812 := n7_; have NB812_809 := n8_; have NB810_812 := n9_; have NB812_810 := n10_; have NB811_812 := n11_; have NB812_811 := n12_; clear n0_ n1_ n2_ n3_ n4_ n5_ n6_ n7_ n8_ n9_ n10_ n11_ n12_; clear hb hbox hg))
  (try simp only [Act.put, List.setIfInBounds_toArray, List.set_cons_zero, List.set_cons_succ])
  go_cut [20] (fun v20 wc => ∃ (kq : Nat) (x20_3 : Bool), v20 = .bool x20_3 ∧ Aside0 (spec_Meet3.j0 kq x20_3 a0_0 a0_1 a0_2 a0_3 a1_0 a1_1 a1_2 a1_3 a2_0 a2_1 a2_2 a2_3 = some (r1, r2, r3, r4, r5)) ∧ Aside0 (kq ≤ k) ∧ Aside0 (wc.heap[gb809]? = some (.cells #[.int .i64 a0_0, .int .i64 a0_1, .int .i64 a0_2, .int .i64 a0_3] 38 (0, 0))) ∧ Aside0 (wc.heap[gb810]? = some (.cells #[.int .i64 a1_0, .int .i64 a1_1, .int .i64 a1_2, .int .i64 a1_3] 38 (0, 0))) ∧ Aside0 (wc.heap[gb811]? = some (.cells #[.int .i64 a2_0, .int .i64 a2_1, .int .i64 a2_2, .int .i64 a2_3] 38 (0, 0))) ∧ Aside0 (wc.heap[gb812]? = some (.cells #[.int .i64 0, .int .i64 0, .int .i64 0, .int .i64 0] 32 (0, 0))) ∧ Aside0 (Below w.heap.size w wc))
  case first =>
    have H := HC4.out
    clear HC4
    replace H := Option.bind_eq_some_iff.mp H
    obtain ⟨t813, A90, H⟩ := H
    replace H : (if t813 = true then ((spec_PlaneOk.f k a1_0 a1_1 a1_2 a1_3).bind fun t814 => (if t814 = true then ((spec_PlaneOk.f k a2_0 a2_1 a2_2 a2_3).bind fun t815 => (spec_Meet3.j0 k (!t815) a0_0 a0_1 a0_2 a0_3 a1_0 a1_1 a1_2 a1_3 a2_0 a2_1 a2_2 a2_3)) else (spec_Meet3.j0 k true a0_0 a0_1 a0_2 a0_3 a1_0 a1_1 a1_2 a1_3 a2_0 a2_1 a2_2 a2_3))) else (spec_Meet3.j0 k true a0_0 a0_1 a0_2 a0_3 a1_0 a1_1 a1_2 a1_3 a2_0 a2_1 a2_2 a2_3)) = some (r1, r2, r3, r4, r5) := H
    have A9 := Aside0.mk A90
    clear A90
    by_cases c10 : t813 = true
    · subst c10
      have H1 : ((spec_PlaneOk.f k a1_0 a1_1 a1_2 a1_3).bind fun t814 => (if t814 = true then ((spec_PlaneOk.f k a2_0 a2_1 a2_2 a2_3).bind fun t815 => (spec_Meet3.j0 k (!t815) a0_0 a0_1 a0_2 a0_3 a1_0 a1_1 a1_2 a1_3 a2_0 a2_1 a2_2 a2_3)) else (spec_Meet3.j0 k true a0_0 a0_1 a0_2 a0_3 a1_0 a1_1 a1_2 a1_3 a2_0 a2_1 a2_2 a2_3))) = some (r1, r2, r3, r4, r5) := by rw [if_pos rfl] at H; exact H
      clear H
      have H := H1
      clear H1
      replace H := Option.bind_eq_some_iff.mp H
      obtain ⟨t814, A110, H⟩ := H
      replace H : (if t814 = true then ((spec_PlaneOk.f k a2_0 a2_1 a2_2 a2_3).bind fun t815 => (spec_Meet3.j0 k (!t815) a0_0 a0_1 a0_2 a0_3 a1_0 a1_1 a1_2 a1_3 a2_0 a2_1 a2_2 a2_3)) else (spec_Meet3.j0 k true a0_0 a0_1 a0_2 a0_3 a1_0 a1_1 a1_2 a1_3 a2_0 a2_1 a2_2 a2_3)) = some (r1, r2, r3, r4, r5) := H
      have A11 := Aside0.mk A110
      clear A110
      by_cases c12 : t814 = true
      · subst c12
        have H1 : ((spec_PlaneOk.f k a2_0 a2_1 a2_2 a2_3).bind fun t815 => (spec_Meet3.j0 k (!t815) a0_0 a0_1 a0_2 a0_3 a1_0 a1_1 a1_2 a1_3 a2_0 a2_1 a2_2 a2_3)) = some (r1, r2, r3, r4, r5) := by rw [if_pos rfl] at H; exact H
        clear H
        have H := H1
        clear H1
        replace H := Option.bind_eq_some_iff.mp H
        obtain ⟨t815, A130, H⟩ := H
        replace H : (spec_Meet3.j0 k (!t815) a0_0 a0_1 a0_2 a0_3 a1_0 a1_1 a1_2 a1_3 a2_0 a2_1 a2_2 a2_3) = some (r1, r2, r3, r4, r5) := H
        have A13 := Aside0.mk A130
        clear A130
        have H' := Aside0.mk H
        clear H
        have hnb14 := NB809_810.out
        have hnc14 := NB810_809.out
        have hnb15 := NB809_811.out
        have hnc15 := NB811_809.out
        have hnb16 := NB809_812.out
        have hnc16 := NB812_809.out
        have hcz17_0 : w8.cell? ⟨gb809, 0, none⟩ = some (.int .i64 a0_0) := (blk_cell BK809.out 0).trans rfl
        have hcz17_1 : w8.cell? ⟨gb809, 1, none⟩ = some (.int .i64 a0_1) := (blk_cell BK809.out 1).trans rfl
        have hcz17_2 : w8.cell? ⟨gb809, 2, none⟩ = some (.int .i64 a0_2) := (blk_cell BK809.out 2).trans rfl
        have hcz17_3 : w8.cell? ⟨gb809, 3, none⟩ = some (.int .i64 a0_3) := (blk_cell BK809.out 3).trans rfl
        have hfz17_0 := blk_frozen BK809.out 0
        have hfz17_1 := blk_frozen BK809.out 1
        have hfz17_2 := blk_frozen BK809.out 2
        have hfz17_3 := blk_frozen BK809.out 3
        go_wp2_with (first | ((with_reducible refine gate_callee (f := 35) rfl ?_); refine goesL_ (some 9) rfl rfl Try.func35 (by kernel_rfl) rfl #[.agg #[.int .i64 a0_0, .int .i64 a0_1, .int .i64 a0_2, .int .i64 a0_3]] rfl (by (try simp only [List.map_toArray, List.map_cons, List.map_nil]); first | done | rfl | (simp only [List.length_drop, List.length_take]; rfl)) ?_; (with_reducible refine (spec_PlaneOk.calls k a0_0 a0_1 a0_2 a0_3 true _ A9.out).mono ?_); rintro e w18 ⟨rfl, hb⟩; refine ⟨_, rfl, ?_⟩; have n0_ := Aside0.mk (blk_below (g := gb809) (o := .cells #[.int .i64 a0_0, .int .i64 a0_1, .int .i64 a0_2, .int .i64 a0_3] 38 (0, 0)) (by (with_reducible repeat (first | refine blk_drewN ?_ _ | refine blk_drew ?_ | refine blk_alloc ?_ _)); exact BK809.out) hb); have n1_ := Aside0.mk (blk_below (g := gb810) (o := .cells #[.int .i64 a1_0, .int .i64 a1_1, .int .i64 a1_2, .int .i64 a1_3] 38 (0, 0)) (by (with_reducible repeat (first | refine blk_drewN ?_ _ | refine blk_drew ?_ | refine blk_alloc ?_ _)); exact BK810.out) hb); have n2_ := Aside0.mk (blk_below (g := gb811) (o := .cells #[.int .i64 a2_0, .int .i64 a2_1, .int .i64 a2_2, .int .i64 a2_3] 38 (0, 0)) (by (with_reducible repeat (first | refine blk_drewN ?_ _ | refine blk_drew ?_ | refine blk_alloc ?_ _)); exact BK811.out) hb); have n3_ := Aside0.mk (blk_below (g := gb812) (o := .cells #[.int .i64 0, .int .i64 0, .int .i64 0, .int .i64 0] 32 (0, 0)) (by (with_reducible repeat (first | refine blk_drewN ?_ _ | refine blk_drew ?_ | refine blk_alloc ?_ _)); exact BK812.out) hb); have n4_ := Aside0.mk (below_step (by repeat (first | (with_reducible first | exact HB.out | apply below_alloc | apply pw_below_drewN | apply below_drew1 | refine below_set ?_ GE809.out | refine below_set ?_ GE810.out | refine below_set ?_ GE811.out | refine below_set ?_ GE812.out) | exact HB.out)) hb); clear BK809; clear BK810; clear BK811; clear BK812; clear HB; have BK809 := n0_; have BK810 := n1_; have BK811 := n2_; have BK812 := n3_; have HB := n4_; clear n0_ n1_ n2_ n3_ n4_; (try clear hb); (try clear hb2); (try clear hk); (try clear hi); have hnb19 := NB810_811.out; have hnc19 := NB811_810.out; have hnb20 := NB810_812.out; have hnc20 := NB812_810.out; have hcz21_0 : w18.cell? ⟨gb810, 0, none⟩ = some (.int .i64 a1_0) := (blk_cell BK810.out 0).trans rfl; have hcz21_1 : w18.cell? ⟨gb810, 1, none⟩ = some (.int .i64 a1_1) := (blk_cell BK810.out 1).trans rfl; have hcz21_2 : w18.cell? ⟨gb810, 2, none⟩ = some (.int .i64 a1_2) := (blk_cell BK810.out 2).trans rfl; have hcz21_3 : w18.cell? ⟨gb810, 3, none⟩ = some (.int .i64 a1_3) := (blk_cell BK810.out 3).trans rfl; have hfz21_0 := blk_frozen BK810.out 0; have hfz21_1 := blk_frozen BK810.out 1; have hfz21_2 := blk_frozen BK810.out 2; have hfz21_3 := blk_frozen BK810.out 3) | (go_at_call 35; (with_reducible refine (spec_PlaneOk.calls k a1_0 a1_1 a1_2 a1_3 true _ A11.out).mono ?_); rintro e w22 ⟨rfl, hb⟩; have n0_ := Aside0.mk (blk_below (g := gb809) (o := .cells #[.int .i64 a0_0, .int .i64 a0_1, .int .i64 a0_2, .int .i64 a0_3] 38 (0, 0)) (by (with_reducible repeat (first | refine blk_drewN ?_ _ | refine blk_drew ?_ | refine blk_alloc ?_ _)); exact BK809.out) hb); have n1_ := Aside0.mk (blk_below (g := gb810) (o := .cells #[.int .i64 a1_0, .int .i64 a1_1, .int .i64 a1_2, .int .i64 a1_3] 38 (0, 0)) (by (with_reducible repeat (first | refine blk_drewN ?_ _ | refine blk_drew ?_ | refine blk_alloc ?_ _)); exact BK810.out) hb); have n2_ := Aside0.mk (blk_below (g := gb811) (o := .cells #[.int .i64 a2_0, .int .i64 a2_1, .int .i64 a2_2, .int .i64 a2_3] 38 (0, 0)) (by (with_reducible repeat (first | refine blk_drewN ?_ _ | refine blk_drew ?_ | refine blk_alloc ?_ _)); exact BK811.out) hb); have n3_ := Aside0.mk (blk_below (g := gb812) (o := .cells #[.int .i64 0, .int .i64 0, .int .i64 0, .int .i64 0] 32 (0, 0)) (by (with_reducible repeat (first | refine blk_drewN ?_ _ | refine blk_drew ?_ | refine blk_alloc ?_ _)); exact BK812.out) hb); have n4_ := Aside0.mk (below_step (by repeat (first | (with_reducible first | exact HB.out | apply below_alloc | apply pw_below_drewN | apply below_drew1 | refine below_set ?_ GE809.out | refine below_set ?_ GE810.out | refine below_set ?_ GE811.out | refine below_set ?_ GE812.out) | exact HB.out)) hb); clear BK809; clear BK810; clear BK811; clear BK812; clear HB; have BK809 := n0_; have BK810 := n1_; have BK811 := n2_; have BK812 := n3_; have HB := n4_; clear n0_ n1_ n2_ n3_ n4_; (try clear hb); (try clear hb2); (try clear hk); (try clear hi); have hnb23 := NB811_812.out; have hnc23 := NB812_811.out; have hcz24_0 : w22.cell? ⟨gb811, 0, none⟩ = some (.int .i64 a2_0) := (blk_cell BK811.out 0).trans rfl; have hcz24_1 : w22.cell? ⟨gb811, 1, none⟩ = some (.int .i64 a2_1) := (blk_cell BK811.out 1).trans rfl; have hcz24_2 : w22.cell? ⟨gb811, 2, none⟩ = some (.int .i64 a2_2) := (blk_cell BK811.out 2).trans rfl; have hcz24_3 : w22.cell? ⟨gb811, 3, none⟩ = some (.int .i64 a2_3) := (blk_cell BK811.out 3).trans rfl; have hfz24_0 := blk_frozen BK811.out 0; have hfz24_1 := blk_frozen BK811.out 1; have hfz24_2 := blk_frozen BK811.out 2; have hfz24_3 := blk_frozen BK811.out 3) | (go_at_call 35; (with_reducible refine (spec_PlaneOk.calls k a2_0 a2_1 a2_2 a2_3 t815 _ A13.out).mono ?_); rintro e w25 ⟨rfl, hb⟩; have n0_ := Aside0.mk (blk_below (g := gb809) (o := .cells #[.int .i64 a0_0, .int .i64 a0_1, .int .i64 a0_2, .int .i64 a0_3] 38 (0, 0)) (by (with_reducible repeat (first | refine blk_drewN ?_ _ | refine blk_drew ?_ | refine blk_alloc ?_ _)); exact BK809.out) hb); have n1_ := Aside0.mk (blk_below (g := gb810) (o := .cells #[.int .i64 a1_0, .int .i64 a1_1, .int .i64 a1_2, .int .i64 a1_3] 38 (0, 0)) (by (with_reducible repeat (first | refine blk_drewN ?_ _ | refine blk_drew ?_ | refine blk_alloc ?_ _)); exact BK810.out) hb); have n2_ := Aside0.mk (blk_below (g := gb811) (o := .cells #[.int .i64 a2_0, .int .i64 a2_1, .int .i64 a2_2, .int .i64 a2_3] 38 (0, 0)) (by (with_reducible repeat (first | refine blk_drewN ?_ _ | refine blk_drew ?_ | refine blk_alloc ?_ _)); exact BK811.out) hb); have n3_ := Aside0.mk (blk_below (g := gb812) (o := .cells #[.int .i64 0, .int .i64 0, .int .i64 0, .int .i64 0] 32 (0, 0)) (by (with_reducible repeat (first | refine blk_drewN ?_ _ | refine blk_drew ?_ | refine blk_alloc ?_ _)); exact BK812.out) hb); have n4_ := Aside0.mk (below_step (by repeat (first | (with_reducible first | exact HB.out | apply below_alloc | apply pw_below_drewN | apply below_drew1 | refine below_set ?_ GE809.out | refine below_set ?_ GE810.out | refine below_set ?_ GE811.out | refine below_set ?_ GE812.out) | exact HB.out)) hb); clear BK809; clear BK810; clear BK811; clear BK812; clear HB; have BK809 := n0_; have BK810 := n1_; have BK811 := n2_; have BK812 := n3_; have HB := n4_; clear n0_ n1_ n2_ n3_ n4_; (try clear hb); (try clear hb2); (try clear hk); (try clear hi)))
        go_meet
        case rel => exact ⟨_, (!t815), (by first | rfl | (simp; done) | (simp [*]; done) | (simp [wrap64]; done)), H', ⟨by first | omega | exact Nat.le_refl _⟩, ⟨by (with_reducible repeat (first | refine blk_drewN ?_ _ | refine blk_drew ?_ | refine blk_alloc ?_ _)); exact BK809.out⟩, ⟨by (with_reducible repeat (first | refine blk_drewN ?_ _ | refine blk_drew ?_ | refine blk_alloc ?_ _)); exact BK810.out⟩, ⟨by (with_reducible repeat (first | refine blk_drewN ?_ _ | refine blk_drew ?_ | refine blk_alloc ?_ _)); exact BK811.out⟩, ⟨by (with_reducible repeat (first | refine blk_drewN ?_ _ | refine blk_drew ?_ | refine blk_alloc ?_ _)); exact BK812.out⟩, ⟨by repeat (first | (with_reducible first | exact HB.out | apply below_alloc | apply pw_below_drewN | apply below_drew1 | refine below_set ?_ GE809.out | refine below_set ?_ GE810.out | refine below_set ?_ GE811.out | refine below_set ?_ GE812.out) | exact HB.out)⟩⟩
      · replace c12 := Bool.eq_false_iff.mpr c12
        subst c12
        have H1 : (spec_Meet3.j0 k true a0_0 a0_1 a0_2 a0_3 a1_0 a1_1 a1_2 a1_3 a2_0 a2_1 a2_2 a2_3) = some (r1, r2, r3, r4, r5) := by rw [if_neg (show ¬ (false = true) by decide)] at H; exact H
        clear H
        have H := H1
        clear H1
        have H' := Aside0.mk H
        clear H
        have hnb26 := NB809_810.out
        have hnc26 := NB810_809.out
        have hnb27 := NB809_811.out
        have hnc27 := NB811_809.out
        have hnb28 := NB809_812.out
        have hnc28 := NB812_809.out
        have hcz29_0 : w8.cell? ⟨gb809, 0, none⟩ = some (.int .i64 a0_0) := (blk_cell BK809.out 0).trans rfl
        have hcz29_1 : w8.cell? ⟨gb809, 1, none⟩ = some (.int .i64 a0_1) := (blk_cell BK809.out 1).trans rfl
        have hcz29_2 : w8.cell? ⟨gb809, 2, none⟩ = some (.int .i64 a0_2) := (blk_cell BK809.out 2).trans rfl
        have hcz29_3 : w8.cell? ⟨gb809, 3, none⟩ = some (.int .i64 a0_3) := (blk_cell BK809.out 3).trans rfl
        have hfz29_0 := blk_frozen BK809.out 0
        have hfz29_1 := blk_frozen BK809.out 1
        have hfz29_2 := blk_frozen BK809.out 2
        have hfz29_3 := blk_frozen BK809.out 3
        go_wp2_with (first | ((with_reducible refine gate_callee (f := 35) rfl ?_); refine goesL_ (some 9) rfl rfl Try.func35 (by kernel_rfl) rfl #[.agg #[.int .i64 a0_0, .int .i64 a0_1, .int .i64 a0_2, .int .i64 a0_3]] rfl (by (try simp only [List.map_toArray, List.map_cons, List.map_nil]); first | done | rfl | (simp only [List.length_drop, List.length_take]; rfl)) ?_; (with_reducible refine (spec_PlaneOk.calls k a0_0 a0_1 a0_2 a0_3 true _ A9.out).mono ?_); rintro e w30 ⟨rfl, hb⟩; refine ⟨_, rfl, ?_⟩; have n0_ := Aside0.mk (blk_below (g := gb809) (o := .cells #[.int .i64 a0_0, .int .i64 a0_1, .int .i64 a0_2, .int .i64 a0_3] 38 (0, 0)) (by (with_reducible repeat (first | refine blk_drewN ?_ _ | refine blk_drew ?_ | refine blk_alloc ?_ _)); exact BK809.out) hb); have n1_ := Aside0.mk (blk_below (g := gb810) (o := .cells #[.int .i64 a1_0, .int .i64 a1_1, .int .i64 a1_2, .int .i64 a1_3] 38 (0, 0)) (by (with_reducible repeat (first | refine blk_drewN ?_ _ | refine blk_drew ?_ | refine blk_alloc ?_ _)); exact BK810.out) hb); have n2_ := Aside0.mk (blk_below (g := gb811) (o := .cells #[.int .i64 a2_0, .int .i64 a2_1, .int .i64 a2_2, .int .i64 a2_3] 38 (0, 0)) (by (with_reducible repeat (first | refine blk_drewN ?_ _ | refine blk_drew ?_ | refine blk_alloc ?_ _)); exact BK811.out) hb); have n3_ := Aside0.mk (blk_below (g := gb812) (o := .cells #[.int .i64 0, .int .i64 0, .int .i64 0, .int .i64 0] 32 (0, 0)) (by (with_reducible repeat (first | refine blk_drewN ?_ _ | refine blk_drew ?_ | refine blk_alloc ?_ _)); exact BK812.out) hb); have n4_ := Aside0.mk (below_step (by repeat (first | (with_reducible first | exact HB.out | apply below_alloc | apply pw_below_drewN | apply below_drew1 | refine below_set ?_ GE809.out | refine below_set ?_ GE810.out | refine below_set ?_ GE811.out | refine below_set ?_ GE812.out) | exact HB.out)) hb); clear BK809; clear BK810; clear BK811; clear BK812; clear HB; have BK809 := n0_; have BK810 := n1_; have BK811 := n2_; have BK812 := n3_; have HB := n4_; clear n0_ n1_ n2_ n3_ n4_; (try clear hb); (try clear hb2); (try clear hk); (try clear hi); have hnb31 := NB810_811.out; have hnc31 := NB811_810.out; have hnb32 := NB810_812.out; have hnc32 := NB812_810.out; have hcz33_0 : w30.cell? ⟨gb810, 0, none⟩ = some (.int .i64 a1_0) := (blk_cell BK810.out 0).trans rfl; have hcz33_1 : w30.cell? ⟨gb810, 1, none⟩ = some (.int .i64 a1_1) := (blk_cell BK810.out 1).trans rfl; have hcz33_2 : w30.cell? ⟨gb810, 2, none⟩ = some (.int .i64 a1_2) := (blk_cell BK810.out 2).trans rfl; have hcz33_3 : w30.cell? ⟨gb810, 3, none⟩ = some (.int .i64 a1_3) := (blk_cell BK810.out 3).trans rfl; have hfz33_0 := blk_frozen BK810.out 0; have hfz33_1 := blk_frozen BK810.out 1; have hfz33_2 := blk_frozen BK810.out 2; have hfz33_3 := blk_frozen BK810.out 3) | (go_at_call 35; (with_reducible refine (spec_PlaneOk.calls k a1_0 a1_1 a1_2 a1_3 false _ A11.out).mono ?_); rintro e w34 ⟨rfl, hb⟩; have n0_ := Aside0.mk (blk_below (g := gb809) (o := .cells #[.int .i64 a0_0, .int .i64 a0_1, .int .i64 a0_2, .int .i64 a0_3] 38 (0, 0)) (by (with_reducible repeat (first | refine blk_drewN ?_ _ | refine blk_drew ?_ | refine blk_alloc ?_ _)); exact BK809.out) hb); have n1_ := Aside0.mk (blk_below (g := gb810) (o := .cells #[.int .i64 a1_0, .int .i64 a1_1, .int .i64 a1_2, .int .i64 a1_3] 38 (0, 0)) (by (with_reducible repeat (first | refine blk_drewN ?_ _ | refine blk_drew ?_ | refine blk_alloc ?_ _)); exact BK810.out) hb); have n2_ := Aside0.mk (blk_below (g := gb811) (o := .cells #[.int .i64 a2_0, .int .i64 a2_1, .int .i64 a2_2, .int .i64 a2_3] 38 (0, 0)) (by (with_reducible repeat (first | refine blk_drewN ?_ _ | refine blk_drew ?_ | refine blk_alloc ?_ _)); exact BK811.out) hb); have n3_ := Aside0.mk (blk_below (g := gb812) (o := .cells #[.int .i64 0, .int .i64 0, .int .i64 0, .int .i64 0] 32 (0, 0)) (by (with_reducible repeat (first | refine blk_drewN ?_ _ | refine blk_drew ?_ | refine blk_alloc ?_ _)); exact BK812.out) hb); have n4_ := Aside0.mk (below_step (by repeat (first | (with_reducible first | exact HB.out | apply below_alloc | apply pw_below_drewN | apply below_drew1 | refine below_set ?_ GE809.out | refine below_set ?_ GE810.out | refine below_set ?_ GE811.out | refine below_set ?_ GE812.out) | exact HB.out)) hb); clear BK809; clear BK810; clear BK811; clear BK812; clear HB; have BK809 := n0_; have BK810 := n1_; have BK811 := n2_; have BK812 := n3_; have HB := n4_; clear n0_ n1_ n2_ n3_ n4_; (try clear hb); (try clear hb2); (try clear hk); (try clear hi)))
        go_meet
        case rel => exact ⟨_, (true), (by first | rfl | (simp; done) | (simp [*]; done) | (simp [wrap64]; done)), H', ⟨by first | omega | exact Nat.le_refl _⟩, ⟨by (with_reducible repeat (first | refine blk_drewN ?_ _ | refine blk_drew ?_ | refine blk_alloc ?_ _)); exact BK809.out⟩, ⟨by (with_reducible repeat (first | refine blk_drewN ?_ _ | refine blk_drew ?_ | refine blk_alloc ?_ _)); exact BK810.out⟩, ⟨by (with_reducible repeat (first | refine blk_drewN ?_ _ | refine blk_drew ?_ | refine blk_alloc ?_ _)); exact BK811.out⟩, ⟨by (with_reducible repeat (first | refine blk_drewN ?_ _ | refine blk_drew ?_ | refine blk_alloc ?_ _)); exact BK812.out⟩, ⟨by repeat (first | (with_reducible first | exact HB.out | apply below_alloc | apply pw_below_drewN | apply below_drew1 | refine below_set ?_ GE809.out | refine below_set ?_ GE810.out | refine below_set ?_ GE811.out | refine below_set ?_ GE812.out) | exact HB.out)⟩⟩
    · replace c10 := Bool.eq_false_iff.mpr c10
      subst c10
      have H1 : (spec_Meet3.j0 k true a0_0 a0_1 a0_2 a0_3 a1_0 a1_1 a1_2 a1_3 a2_0 a2_1 a2_2 a2_3) = some (r1, r2, r3, r4, r5) := by rw [if_neg (show ¬ (false = true) by decide)] at H; exact H
      clear H
      have H := H1
      clear H1
      have H' := Aside0.mk H
      clear H
      have hnb35 := NB809_810.out
      have hnc35 := NB810_809.out
      have hnb36 := NB809_811.out
      have hnc36 := NB811_809.out
      have hnb37 := NB809_812.out
      have hnc37 := NB812_809.out
      have hcz38_0 : w8.cell? ⟨gb809, 0, none⟩ = some (.int .i64 a0_0) := (blk_cell BK809.out 0).trans rfl
      have hcz38_1 : w8.cell? ⟨gb809, 1, none⟩ = some (.int .i64 a0_1) := (blk_cell BK809.out 1).trans rfl
      have hcz38_2 : w8.cell? ⟨gb809, 2, none⟩ = some (.int .i64 a0_2) := (blk_cell BK809.out 2).trans rfl
      have hcz38_3 : w8.cell? ⟨gb809, 3, none⟩ = some (.int .i64 a0_3) := (blk_cell BK809.out 3).trans rfl
      have hfz38_0 := blk_frozen BK809.out 0
      have hfz38_1 := blk_frozen BK809.out 1
      have hfz38_2 := blk_frozen BK809.out 2
      have hfz38_3 := blk_frozen BK809.out 3
      go_wp2_with (first | ((with_reducible refine gate_callee (f := 35) rfl ?_); refine goesL_ (some 9) rfl rfl Try.func35 (by kernel_rfl) rfl #[.agg #[.int .i64 a0_0, .int .i64 a0_1, .int .i64 a0_2, .int .i64 a0_3]] rfl (by (try simp only [List.map_toArray, List.map_cons, List.map_nil]); first | done | rfl | (simp only [List.length_drop, List.length_take]; rfl)) ?_; (with_reducible refine (spec_PlaneOk.calls k a0_0 a0_1 a0_2 a0_3 false _ A9.out).mono ?_); rintro e w39 ⟨rfl, hb⟩; refine ⟨_, rfl, ?_⟩; have n0_ := Aside0.mk (blk_below (g := gb809) (o := .cells #[.int .i64 a0_0, .int .i64 a0_1, .int .i64 a0_2, .int .i64 a0_3] 38 (0, 0)) (by (with_reducible repeat (first | refine blk_drewN ?_ _ | refine blk_drew ?_ | refine blk_alloc ?_ _)); exact BK809.out) hb); have n1_ := Aside0.mk (blk_below (g := gb810) (o := .cells #[.int .i64 a1_0, .int .i64 a1_1, .int .i64 a1_2, .int .i64 a1_3] 38 (0, 0)) (by (with_reducible repeat (first | refine blk_drewN ?_ _ | refine blk_drew ?_ | refine blk_alloc ?_ _)); exact BK810.out) hb); have n2_ := Aside0.mk (blk_below (g := gb811) (o := .cells #[.int .i64 a2_0, .int .i64 a2_1, .int .i64 a2_2, .int .i64 a2_3] 38 (0, 0)) (by (with_reducible repeat (first | refine blk_drewN ?_ _ | refine blk_drew ?_ | refine blk_alloc ?_ _)); exact BK811.out) hb); have n3_ := Aside0.mk (blk_below (g := gb812) (o := .cells #[.int .i64 0, .int .i64 0, .int .i64 0, .int .i64 0] 32 (0, 0)) (by (with_reducible repeat (first | refine blk_drewN ?_ _ | refine blk_drew ?_ | refine blk_alloc ?_ _)); exact BK812.out) hb); have n4_ := Aside0.mk (below_step (by repeat (first | (with_reducible first | exact HB.out | apply below_alloc | apply pw_below_drewN | apply below_drew1 | refine below_set ?_ GE809.out | refine below_set ?_ GE810.out | refine below_set ?_ GE811.out | refine below_set ?_ GE812.out) | exact HB.out)) hb); clear BK809; clear BK810; clear BK811; clear BK812; clear HB; have BK809 := n0_; have BK810 := n1_; have BK811 := n2_; have BK812 := n3_; have HB := n4_; clear n0_ n1_ n2_ n3_ n4_; (try clear hb); (try clear hb2); (try clear hk); (try clear hi)))
      go_meet
      case rel => exact ⟨_, (true), (by first | rfl | (simp; done) | (simp [*]; done) | (simp [wrap64]; done)), H', ⟨by first | omega | exact Nat.le_refl _⟩, ⟨by (with_reducible repeat (first | refine blk_drewN ?_ _ | refine blk_drew ?_ | refine blk_alloc ?_ _)); exact BK809.out⟩, ⟨by (with_reducible repeat (first | refine blk_drewN ?_ _ | refine blk_drew ?_ | refine blk_alloc ?_ _)); exact BK810.out⟩, ⟨by (with_reducible repeat (first | refine blk_drewN ?_ _ | refine blk_drew ?_ | refine blk_alloc ?_ _)); exact BK811.out⟩, ⟨by (with_reducible repeat (first | refine blk_drewN ?_ _ | refine blk_drew ?_ | refine blk_alloc ?_ _)); exact BK812.out⟩, ⟨by repeat (first | (with_reducible first | exact HB.out | apply below_alloc | apply pw_below_drewN | apply below_drew1 | refine below_set ?_ GE809.out | refine below_set ?_ GE810.out | refine below_set ?_ GE811.out | refine below_set ?_ GE812.out) | exact HB.out)⟩⟩
  case rest =>
    clear HC4
    try clear c1
    try clear c2
    try clear p2
    try clear c3
    try clear c6
    try clear p6
    try clear c10
    try clear c12
    try clear c14
    try clear c15
    try clear c16
    try clear c19
    try clear c20
    try clear c23
    try clear c26
    try clear c27
    try clear c28
    try clear c31
    try clear c32
    try clear c35
    try clear c36
    try clear c37
    try clear hcz17_0
    try clear hcz17_1
    try clear hcz17_2
    try clear hcz17_3
    try clear hcz21_0
    try clear hcz21_1
    try clear hcz21_2
    try clear hcz21_3
    try clear hcz24_0
    try clear hcz24_1
    try clear hcz24_2
    try clear hcz24_3
    try clear hcz29_0
    try clear hcz29_1
    try clear hcz29_2
    try clear hcz29_3
    try clear hcz33_0
    try clear hcz33_1
    try clear hcz33_2
    try clear hcz33_3
    try clear hcz38_0
    try clear hcz38_1
    try clear hcz38_2
    try clear hcz38_3
    try clear hfz17_0
    try clear hfz17_1
    try clear hfz17_2
    try clear hfz17_3
    try clear hfz21_0
    try clear hfz21_1
    try clear hfz21_2
    try clear hfz21_3
    try clear hfz24_0
    try clear hfz24_1
    try clear hfz24_2
    try clear hfz24_3
    try clear hfz29_0
    try clear hfz29_1
    try clear hfz29_2
    try clear hfz29_3
    try clear hfz33_0
    try clear hfz33_1
    try clear hfz33_2
    try clear hfz33_3
    try clear hfz38_0
    try clear hfz38_1
    try clear hfz38_2
    try clear hfz38_3
    obtain ⟨kq, x20_3, rfl, HA, HJ3, BK809, BK810, BK811, BK812, HB⟩ := hcut
    cases kq with
    | zero => exact absurd HA.out (by simp [spec_Meet3.j0])
    | succ kj3 =>
      have H := HA.out
      clear HA
      simp only [spec_Meet3.j0] at H
      by_cases c40 : x20_3 = true
      · subst c40
        have H1 : (some (0, 0, 0, 0, false)) = some (r1, r2, r3, r4, r5) := by rw [if_pos rfl] at H; exact H
        clear H
        have H := H1
        clear H1
        simp only [Option.some.injEq, Prod.mk.injEq] at H
        obtain ⟨rfl, rfl, rfl, rfl, rfl⟩ := H
        have hnb41 := NB812_809.out
        have hnc41 := NB809_812.out
        have hnb42 := NB812_810.out
        have hnc42 := NB810_812.out
        have hnb43 := NB812_811.out
        have hnc43 := NB811_812.out
        have hcz44_0 : wc.cell? ⟨gb812, 0, none⟩ = some (.int .i64 0) := (blk_cell BK812.out 0).trans rfl
        have hcz44_1 : wc.cell? ⟨gb812, 1, none⟩ = some (.int .i64 0) := (blk_cell BK812.out 1).trans rfl
        have hcz44_2 : wc.cell? ⟨gb812, 2, none⟩ = some (.int .i64 0) := (blk_cell BK812.out 2).trans rfl
        have hcz44_3 : wc.cell? ⟨gb812, 3, none⟩ = some (.int .i64 0) := (blk_cell BK812.out 3).trans rfl
        have hfz44_0 := blk_frozen BK812.out 0
        have hfz44_1 := blk_frozen BK812.out 1
        have hfz44_2 := blk_frozen BK812.out 2
        have hfz44_3 := blk_frozen BK812.out 3
        go_wp2
        refine bodyPost_ret (results_ct rfl _ _ gb812 32 #[.int .i64 0, .int .i64 0, .int .i64 0, .int .i64 0] (0, 0) _ rfl (by (with_reducible repeat (first | refine blk_drewN ?_ _ | refine blk_drew ?_ | refine blk_alloc ?_ _)); refine blk_put (cs := #[.int .i64 0, .int .i64 0, .int .i64 0, .int .i64 0]) ?_ 3 _ rfl; (with_reducible repeat (first | refine blk_drewN ?_ _ | refine blk_drew ?_ | refine blk_alloc ?_ _)); refine blk_put (cs := #[.int .i64 0, .int .i64 0, .int .i64 0, .int .i64 0]) ?_ 2 _ rfl; (with_reducible repeat (first | refine blk_drewN ?_ _ | refine blk_drew ?_ | refine blk_alloc ?_ _)); refine blk_put (cs := #[.int .i64 0, .int .i64 0, .int .i64 0, .int .i64 0]) ?_ 1 _ rfl; (with_reducible repeat (first | refine blk_drewN ?_ _ | refine blk_drew ?_ | refine blk_alloc ?_ _)); refine blk_put (cs := #[.int .i64 0, .int .i64 0, .int .i64 0, .int .i64 0]) ?_ 0 _ rfl; (with_reducible repeat (first | refine blk_drewN ?_ _ | refine blk_drew ?_ | refine blk_alloc ?_ _)); exact BK812.out) Try.underlying32 rfl (by kernel_rfl)) rfl ?_
        exact ⟨by first | rfl | (simp [errW_none, errW_some] <;> rfl) | (simp [*, errW_none, errW_some] <;> rfl), by repeat (first | (with_reducible first | exact HB.out | apply below_alloc | apply pw_below_drewN | apply below_drew1 | refine below_set ?_ GE809.out | refine below_set ?_ GE810.out | refine below_set ?_ GE811.out | refine below_set ?_ GE812.out) | exact HB.out)⟩
      · replace c40 := Bool.eq_false_iff.mpr c40
        subst c40
        have H1 : ((spec_l5Meet.f kj3 a0_0 a0_1 a0_2 a0_3 a1_0 a1_1 a1_2 a1_3 a2_0 a2_1 a2_2 a2_3).bind fun bt816 => (some (bt816.1, bt816.2.1, bt816.2.2.1, bt816.2.2.2.1, bt816.2.2.2.2))) = some (r1, r2, r3, r4, r5) := by rw [if_neg (show ¬ (false = true) by decide)] at H; exact H
        clear H
        have H := H1
        clear H1
        replace H := Option.bind_eq_some_iff.mp H
        obtain ⟨⟨t816, t817, t818, t819, t820⟩, A450, H⟩ := H
        replace H : (some (t816, t817, t818, t819, t820)) = some (r1, r2, r3, r4, r5) := H
        have A45 := Aside0.mk A450
        clear A450
        simp only [Option.some.injEq, Prod.mk.injEq] at H
        obtain ⟨rfl, rfl, rfl, rfl, rfl⟩ := H
        have hnb46 := NB809_810.out
        have hnc46 := NB810_809.out
        have hnb47 := NB809_811.out
        have hnc47 := NB811_809.out
        have hnb48 := NB809_812.out
        have hnc48 := NB812_809.out
        have hcz49_0 : wc.cell? ⟨gb809, 0, none⟩ = some (.int .i64 a0_0) := (blk_cell BK809.out 0).trans rfl
        have hcz49_1 : wc.cell? ⟨gb809, 1, none⟩ = some (.int .i64 a0_1) := (blk_cell BK809.out 1).trans rfl
        have hcz49_2 : wc.cell? ⟨gb809, 2, none⟩ = some (.int .i64 a0_2) := (blk_cell BK809.out 2).trans rfl
        have hcz49_3 : wc.cell? ⟨gb809, 3, none⟩ = some (.int .i64 a0_3) := (blk_cell BK809.out 3).trans rfl
        have hfz49_0 := blk_frozen BK809.out 0
        have hfz49_1 := blk_frozen BK809.out 1
        have hfz49_2 := blk_frozen BK809.out 2
        have hfz49_3 := blk_frozen BK809.out 3
        have hnb50 := NB810_811.out
        have hnc50 := NB811_810.out
        have hnb51 := NB810_812.out
        have hnc51 := NB812_810.out
        have hcz52_0 : wc.cell? ⟨gb810, 0, none⟩ = some (.int .i64 a1_0) := (blk_cell BK810.out 0).trans rfl
        have hcz52_1 : wc.cell? ⟨gb810, 1, none⟩ = some (.int .i64 a1_1) := (blk_cell BK810.out 1).trans rfl
        have hcz52_2 : wc.cell? ⟨gb810, 2, none⟩ = some (.int .i64 a1_2) := (blk_cell BK810.out 2).trans rfl
        have hcz52_3 : wc.cell? ⟨gb810, 3, none⟩ = some (.int .i64 a1_3) := (blk_cell BK810.out 3).trans rfl
        have hfz52_0 := blk_frozen BK810.out 0
        have hfz52_1 := blk_frozen BK810.out 1
        have hfz52_2 := blk_frozen BK810.out 2
        have hfz52_3 := blk_frozen BK810.out 3
        have hnb53 := NB811_812.out
        have hnc53 := NB812_811.out
        have hcz54_0 : wc.cell? ⟨gb811, 0, none⟩ = some (.int .i64 a2_0) := (blk_cell BK811.out 0).trans rfl
        have hcz54_1 : wc.cell? ⟨gb811, 1, none⟩ = some (.int .i64 a2_1) := (blk_cell BK811.out 1).trans rfl
        have hcz54_2 : wc.cell? ⟨gb811, 2, none⟩ = some (.int .i64 a2_2) := (blk_cell BK811.out 2).trans rfl
        have hcz54_3 : wc.cell? ⟨gb811, 3, none⟩ = some (.int .i64 a2_3) := (blk_cell BK811.out 3).trans rfl
        have hfz54_0 := blk_frozen BK811.out 0
        have hfz54_1 := blk_frozen BK811.out 1
        have hfz54_2 := blk_frozen BK811.out 2
        have hfz54_3 := blk_frozen BK811.out 3
        go_wp2_with (first | ((with_reducible refine gate_callee (f := 134) rfl ?_); refine goesL_ (some 25) rfl rfl Try.func134 (by kernel_rfl) rfl #[.agg #[.int .i64 a0_0, .int .i64 a0_1, .int .i64 a0_2, .int .i64 a0_3], .agg #[.int .i64 a1_0, .int .i64 a1_1, .int .i64 a1_2, .int .i64 a1_3], .agg #[.int .i64 a2_0, .int .i64 a2_1, .int .i64 a2_2, .int .i64 a2_3]] rfl (by (try simp only [List.map_toArray, List.map_cons, List.map_nil]); first | done | rfl | (simp only [List.length_drop, List.length_take]; rfl)) ?_; (with_reducible refine (spec_l5Meet.calls kj3 a0_0 a0_1 a0_2 a0_3 a1_0 a1_1 a1_2 a1_3 a2_0 a2_1 a2_2 a2_3 t816 t817 t818 t819 t820 _ A45.out).mono ?_); rintro e w55 ⟨rfl, hb⟩; refine ⟨_, rfl, ?_⟩; have n0_ := Aside0.mk (blk_below (g := gb809) (o := .cells #[.int .i64 a0_0, .int .i64 a0_1, .int .i64 a0_2, .int .i64 a0_3] 38 (0, 0)) (by (with_reducible repeat (first | refine blk_drewN ?_ _ | refine blk_drew ?_ | refine blk_alloc ?_ _)); exact BK809.out) hb); have n1_ := Aside0.mk (blk_below (g := gb810) (o := .cells #[.int .i64 a1_0, .int .i64 a1_1, .int .i64 a1_2, .int .i64 a1_3] 38 (0, 0)) (by (with_reducible repeat (first | refine blk_drewN ?_ _ | refine blk_drew ?_ | refine blk_alloc ?_ _)); exact BK810.out) hb); have n2_ := Aside0.mk (blk_below (g := gb811) (o := .cells #[.int .i64 a2_0, .int .i64 a2_1, .int .i64 a2_2, .int .i64 a2_3] 38 (0, 0)) (by (with_reducible repeat (first | refine blk_drewN ?_ _ | refine blk_drew ?_ | refine blk_alloc ?_ _)); exact BK811.out) hb); have n3_ := Aside0.mk (blk_below (g := gb812) (o := .cells #[.int .i64 0, .int .i64 0, .int .i64 0, .int .i64 0] 32 (0, 0)) (by (with_reducible repeat (first | refine blk_drewN ?_ _ | refine blk_drew ?_ | refine blk_alloc ?_ _)); exact BK812.out) hb); have n4_ := Aside0.mk (below_step (by repeat (first | (with_reducible first | exact HB.out | apply below_alloc | apply pw_below_drewN | apply below_drew1 | refine below_set ?_ GE809.out | refine below_set ?_ GE810.out | refine below_set ?_ GE811.out | refine below_set ?_ GE812.out) | exact HB.out)) hb); clear BK809; clear BK810; clear BK811; clear BK812; clear HB; have BK809 := n0_; have BK810 := n1_; have BK811 := n2_; have BK812 := n3_; have HB := n4_; clear n0_ n1_ n2_ n3_ n4_; (try clear hb); (try clear hb2); (try clear hk); (try clear hi); have hcz56_0 : w55.cell? ⟨gb812, 0, none⟩ = some (.int .i64 0) := (blk_cell BK812.out 0).trans rfl; have hcz56_1 : w55.cell? ⟨gb812, 1, none⟩ = some (.int .i64 0) := (blk_cell BK812.out 1).trans rfl; have hcz56_2 : w55.cell? ⟨gb812, 2, none⟩ = some (.int .i64 0) := (blk_cell BK812.out 2).trans rfl; have hcz56_3 : w55.cell? ⟨gb812, 3, none⟩ = some (.int .i64 0) := (blk_cell BK812.out 3).trans rfl; have hfz56_0 := blk_frozen BK812.out 0; have hfz56_1 := blk_frozen BK812.out 1; have hfz56_2 := blk_frozen BK812.out 2; have hfz56_3 := blk_frozen BK812.out 3))
        refine bodyPost_ret (results_ct rfl _ _ gb812 32 #[.int .i64 t816, .int .i64 t817, .int .i64 t818, .int .i64 t819] (0, 0) _ rfl (by (with_reducible repeat (first | refine blk_drewN ?_ _ | refine blk_drew ?_ | refine blk_alloc ?_ _)); refine blk_put (cs := #[.int .i64 t816, .int .i64 t817, .int .i64 t818, .int .i64 0]) ?_ 3 _ rfl; (with_reducible repeat (first | refine blk_drewN ?_ _ | refine blk_drew ?_ | refine blk_alloc ?_ _)); refine blk_put (cs := #[.int .i64 t816, .int .i64 t817, .int .i64 0, .int .i64 0]) ?_ 2 _ rfl; (with_reducible repeat (first | refine blk_drewN ?_ _ | refine blk_drew ?_ | refine blk_alloc ?_ _)); refine blk_put (cs := #[.int .i64 t816, .int .i64 0, .int .i64 0, .int .i64 0]) ?_ 1 _ rfl; (with_reducible repeat (first | refine blk_drewN ?_ _ | refine blk_drew ?_ | refine blk_alloc ?_ _)); refine blk_put (cs := #[.int .i64 0, .int .i64 0, .int .i64 0, .int .i64 0]) ?_ 0 _ rfl; (with_reducible repeat (first | refine blk_drewN ?_ _ | refine blk_drew ?_ | refine blk_alloc ?_ _)); exact BK812.out) Try.underlying32 rfl (by kernel_rfl)) rfl ?_
        exact ⟨by first | rfl | (simp [errW_none, errW_some] <;> rfl) | (simp [*, errW_none, errW_some] <;> rfl), by repeat (first | (with_reducible first | exact HB.out | apply below_alloc | apply pw_below_drewN | apply below_drew1 | refine below_set ?_ GE809.out | refine below_set ?_ GE810.out | refine below_set ?_ GE811.out | refine below_set ?_ GE812.out) | exact HB.out)⟩

end Go.Proofs.Ytmcjkdbegkdhoaa.Print
