-- Printed by a program of the session (mkprinter.py, over the kit's print); Lean checks it.
import Derived.Test.YtmcjkdbegkdhoaaPrint0
import Derived.Test.YtmcjkdbegkdhoaaPrint2
import Derived.Test.YtmcjkdbegkdhoaaPrint26
import Derived.Test.YtmcjkdbegkdhoaaPrint30
import Derived.Test.YtmcjkdbegkdhoaaPrint31
namespace Go.Proofs.Ytmcjkdbegkdhoaa.Print
open Go.RowKit Go.Proofs.YtmcjkdbegkdhoaaW.PrintWords Go.Proofs.YtmcjkdbegkdhoaaW.PrintLast Go.Proofs.YtmcjkdbegkdhoaaW.PrintMore
attribute [local go_sem] max2_int min2_int max_two min_two max_three min_three max_four min_four   -- for this text's walks alone
set_option linter.unusedVariables false
set_option linter.unusedSimpArgs false

attribute [local go_sem high] eqA54
/-! ### impl_Rank: function 69 -/
mutual
def impl_Rank.l0 : Nat → Int → List (S38) → Int → Int → Int → Int → Int → Int → Int → Int → Option (Int)
  | 0, _, _, _, _, _, _, _, _, _, _ => none
  | k + 1, x4, x8, x9, x10, x917000, x917001, x917002, x917003, x917004, x917005 => if x10 < x9 then (if 0 ≤ x10 then (if x10 < (x8.length : Int) then ((impl_taken.f k ((rd_T38 x8 x10).f0) ((rd_T38 x8 x10).f1) ((rd_T38 x8 x10).f2) ((rd_T38 x8 x10).f3)).bind fun bt919 => ((impl_normal.f bt919.1 bt919.2.1 bt919.2.2.1 bt919.2.2.2).bind fun bt923 => (if x4 = 0 then (impl_Rank.j1 k x4 x8 x9 x10 (!(bt923.1 == 0) || (!(bt923.2.1 == 0) || (!(bt923.2.2 == 0)))) x917000 x917001 x917002 x917003 x917004 x917005 bt923.1 bt923.2.1 bt923.2.2) else (impl_Rank.j1 k x4 x8 x9 x10 false x917000 x917001 x917002 x917003 x917004 x917005 bt923.1 bt923.2.1 bt923.2.2)))) else (none)) else (none)) else (some x4)
def impl_Rank.j1 : Nat → Int → List (S38) → Int → Int → Bool → Int → Int → Int → Int → Int → Int → Int → Int → Int → Option (Int)
  | 0, _, _, _, _, _, _, _, _, _, _, _, _, _, _ => none
  | k + 1, x4, x8, x9, x10, x17, x917000, x917001, x917002, x917003, x917004, x917005, x927000, x927001, x927002 => if x17 = true then (impl_Rank.l0 k 1 x8 x9 (wrap64 (x10 + 1)) x927000 x927001 x927002 x917003 x917004 x917005) else (if x4 = 1 then ((impl_crossOf.f x917000 x917001 x917002 x927000 x927001 x927002).bind fun bt927 => (impl_Rank.j2 k x4 x8 x9 x10 (!(bt927.1 == 0) || (!(bt927.2.1 == 0) || (!(bt927.2.2 == 0)))) x917000 x917001 x917002 x917003 x917004 x917005 x927000 x927001 x927002)) else (impl_Rank.j2 k x4 x8 x9 x10 false x917000 x917001 x917002 x917003 x917004 x917005 x927000 x927001 x927002))
def impl_Rank.j2 : Nat → Int → List (S38) → Int → Int → Bool → Int → Int → Int → Int → Int → Int → Int → Int → Int → Option (Int)
  | 0, _, _, _, _, _, _, _, _, _, _, _, _, _, _ => none
  | k + 1, x4, x8, x9, x10, x27, x917000, x917001, x917002, x917003, x917004, x917005, x927000, x927001, x927002 => if x27 = true then (impl_Rank.l0 k 2 x8 x9 (wrap64 (x10 + 1)) x917000 x917001 x917002 x927000 x927001 x927002) else (if x4 = 2 then ((impl_det.f x917000 x917001 x917002 x917003 x917004 x917005 x927000 x927001 x927002).bind fun t930 => (impl_Rank.j3 k x4 x8 x9 x10 (t930 != 0) x917000 x917001 x917002 x917003 x917004 x917005)) else (impl_Rank.j3 k x4 x8 x9 x10 false x917000 x917001 x917002 x917003 x917004 x917005))
def impl_Rank.j3 : Nat → Int → List (S38) → Int → Int → Bool → Int → Int → Int → Int → Int → Int → Option (Int)
  | 0, _, _, _, _, _, _, _, _, _, _, _ => none
  | k + 1, x4, x8, x9, x10, x40, x917000, x917001, x917002, x917003, x917004, x917005 => if x40 = true then (some 3) else (impl_Rank.l0 k x4 x8 x9 (wrap64 (x10 + 1)) x917000 x917001 x917002 x917003 x917004 x917005)
end
def impl_Rank.f (k : Nat) (l0 : List (S38)) : Option (Int) := impl_Rank.l0 k 0 l0 (l0.length : Int) 0 0 0 0 0 0 0
theorem impl_Rank.mono_l : ∀ k, (∀ y0 y1 y2 y3 y4 y5 y6 y7 y8 y9, LeO (impl_Rank.l0 k y0 y1 y2 y3 y4 y5 y6 y7 y8 y9) (impl_Rank.l0 (k + 1) y0 y1 y2 y3 y4 y5 y6 y7 y8 y9)) ∧ (∀ y0 y1 y2 y3 y4 y5 y6 y7 y8 y9 y10 y11 y12 y13, LeO (impl_Rank.j1 k y0 y1 y2 y3 y4 y5 y6 y7 y8 y9 y10 y11 y12 y13) (impl_Rank.j1 (k + 1) y0 y1 y2 y3 y4 y5 y6 y7 y8 y9 y10 y11 y12 y13)) ∧ (∀ y0 y1 y2 y3 y4 y5 y6 y7 y8 y9 y10 y11 y12 y13, LeO (impl_Rank.j2 k y0 y1 y2 y3 y4 y5 y6 y7 y8 y9 y10 y11 y12 y13) (impl_Rank.j2 (k + 1) y0 y1 y2 y3 y4 y5 y6 y7 y8 y9 y10 y11 y12 y13)) ∧ (∀ y0 y1 y2 y3 y4 y5 y6 y7 y8 y9 y10, LeO (impl_Rank.j3 k y0 y1 y2 y3 y4 y5 y6 y7 y8 y9 y10) (impl_Rank.j3 (k + 1) y0 y1 y2 y3 y4 y5 y6 y7 y8 y9 y10))
  | 0 => ⟨fun _ _ _ _ _ _ _ _ _ _ r h => by simp [impl_Rank.l0] at h, fun _ _ _ _ _ _ _ _ _ _ _ _ _ _ r h => by simp [impl_Rank.j1] at h, fun _ _ _ _ _ _ _ _ _ _ _ _ _ _ r h => by simp [impl_Rank.j2] at h, fun _ _ _ _ _ _ _ _ _ _ _ r h => by simp [impl_Rank.j3] at h⟩
  | k + 1 => by
    obtain ⟨ih0, ih1, ih2, ih3⟩ := impl_Rank.mono_l k
    refine ⟨?_, ?_, ?_, ?_⟩
    · intro y0 y1 y2 y3 y4 y5 y6 y7 y8 y9
      unfold impl_Rank.l0
      repeat' first
      | (with_reducible exact ih0 _ _ _ _ _ _ _ _ _ _)
      | (with_reducible exact ih1 _ _ _ _ _ _ _ _ _ _ _ _ _ _)
      | (with_reducible exact ih2 _ _ _ _ _ _ _ _ _ _ _ _ _ _)
      | (with_reducible exact ih3 _ _ _ _ _ _ _ _ _ _ _)
      | (with_reducible exact impl_taken.mono _ _ _ _ _)
      | (with_reducible exact LeO.refl _)
      | (with_reducible exact LeO.none _)
      | (with_reducible refine LeO.ite ?_ ?_)
      | (with_reducible refine LeO.bind ?_ (fun _ => ?_))
      | exact ih0 _ _ _ _ _ _ _ _ _ _
      | exact ih1 _ _ _ _ _ _ _ _ _ _ _ _ _ _
      | exact ih2 _ _ _ _ _ _ _ _ _ _ _ _ _ _
      | exact ih3 _ _ _ _ _ _ _ _ _ _ _
      | exact impl_taken.mono _ _ _ _ _
      | exact LeO.none _
      | refine LeO.ite ?_ ?_
      | refine LeO.bind ?_ (fun _ => ?_)
    · intro y0 y1 y2 y3 y4 y5 y6 y7 y8 y9 y10 y11 y12 y13
      unfold impl_Rank.j1
      repeat' first
      | (with_reducible exact ih0 _ _ _ _ _ _ _ _ _ _)
      | (with_reducible exact ih1 _ _ _ _ _ _ _ _ _ _ _ _ _ _)
      | (with_reducible exact ih2 _ _ _ _ _ _ _ _ _ _ _ _ _ _)
      | (with_reducible exact ih3 _ _ _ _ _ _ _ _ _ _ _)
      | (with_reducible exact impl_taken.mono _ _ _ _ _)
      | (with_reducible exact LeO.refl _)
      | (with_reducible exact LeO.none _)
      | (with_reducible refine LeO.ite ?_ ?_)
      | (with_reducible refine LeO.bind ?_ (fun _ => ?_))
      | exact ih0 _ _ _ _ _ _ _ _ _ _
      | exact ih1 _ _ _ _ _ _ _ _ _ _ _ _ _ _
      | exact ih2 _ _ _ _ _ _ _ _ _ _ _ _ _ _
      | exact ih3 _ _ _ _ _ _ _ _ _ _ _
      | exact impl_taken.mono _ _ _ _ _
      | exact LeO.none _
      | refine LeO.ite ?_ ?_
      | refine LeO.bind ?_ (fun _ => ?_)
    · intro y0 y1 y2 y3 y4 y5 y6 y7 y8 y9 y10 y11 y12 y13
      unfold impl_Rank.j2
      repeat' first
      | (with_reducible exact ih0 _ _ _ _ _ _ _ _ _ _)
      | (with_reducible exact ih1 _ _ _ _ _ _ _ _ _ _ _ _ _ _)
      | (with_reducible exact ih2 _ _ _ _ _ _ _ _ _ _ _ _ _ _)
      | (with_reducible exact ih3 _ _ _ _ _ _ _ _ _ _ _)
      | (with_reducible exact impl_taken.mono _ _ _ _ _)
      | (with_reducible exact LeO.refl _)
      | (with_reducible exact LeO.none _)
      | (with_reducible refine LeO.ite ?_ ?_)
      | (with_reducible refine LeO.bind ?_ (fun _ => ?_))
      | exact ih0 _ _ _ _ _ _ _ _ _ _
      | exact ih1 _ _ _ _ _ _ _ _ _ _ _ _ _ _
      | exact ih2 _ _ _ _ _ _ _ _ _ _ _ _ _ _
      | exact ih3 _ _ _ _ _ _ _ _ _ _ _
      | exact impl_taken.mono _ _ _ _ _
      | exact LeO.none _
      | refine LeO.ite ?_ ?_
      | refine LeO.bind ?_ (fun _ => ?_)
    · intro y0 y1 y2 y3 y4 y5 y6 y7 y8 y9 y10
      unfold impl_Rank.j3
      repeat' first
      | (with_reducible exact ih0 _ _ _ _ _ _ _ _ _ _)
      | (with_reducible exact ih1 _ _ _ _ _ _ _ _ _ _ _ _ _ _)
      | (with_reducible exact ih2 _ _ _ _ _ _ _ _ _ _ _ _ _ _)
      | (with_reducible exact ih3 _ _ _ _ _ _ _ _ _ _ _)
      | (with_reducible exact impl_taken.mono _ _ _ _ _)
      | (with_reducible exact LeO.refl _)
      | (with_reducible exact LeO.none _)
      | (with_reducible refine LeO.ite ?_ ?_)
      | (with_reducible refine LeO.bind ?_ (fun _ => ?_))
      | exact ih0 _ _ _ _ _ _ _ _ _ _
      | exact ih1 _ _ _ _ _ _ _ _ _ _ _ _ _ _
      | exact ih2 _ _ _ _ _ _ _ _ _ _ _ _ _ _
      | exact ih3 _ _ _ _ _ _ _ _ _ _ _
      | exact impl_taken.mono _ _ _ _ _
      | exact LeO.none _
      | refine LeO.ite ?_ ?_
      | refine LeO.bind ?_ (fun _ => ?_)
theorem impl_Rank.mono : ∀ a0 k, LeO (impl_Rank.f k a0) (impl_Rank.f (k + 1) a0) := by
  intro a0 k
  obtain ⟨ih0, ih1, ih2, ih3⟩ := impl_Rank.mono_l k
  unfold impl_Rank.f
  repeat' first
      | (with_reducible exact ih0 _ _ _ _ _ _ _ _ _ _)
      | (with_reducible exact ih1 _ _ _ _ _ _ _ _ _ _ _ _ _ _)
      | (with_reducible exact ih2 _ _ _ _ _ _ _ _ _ _ _ _ _ _)
      | (with_reducible exact ih3 _ _ _ _ _ _ _ _ _ _ _)
      | (with_reducible exact impl_taken.mono _ _ _ _ _)
      | (with_reducible exact LeO.refl _)
      | (with_reducible exact LeO.none _)
      | (with_reducible refine LeO.ite ?_ ?_)
      | (with_reducible refine LeO.bind ?_ (fun _ => ?_))
      | exact ih0 _ _ _ _ _ _ _ _ _ _
      | exact ih1 _ _ _ _ _ _ _ _ _ _ _ _ _ _
      | exact ih2 _ _ _ _ _ _ _ _ _ _ _ _ _ _
      | exact ih3 _ _ _ _ _ _ _ _ _ _ _
      | exact impl_taken.mono _ _ _ _ _
      | exact LeO.none _
      | refine LeO.ite ?_ ?_
      | refine LeO.bind ?_ (fun _ => ?_)
set_option maxHeartbeats 8000000 in
set_option maxRecDepth 100000 in
theorem impl_Rank.calls (k : Nat) (A0 : Option Addr) (c0 : Nat) (l0 : List (S38)) (r : Int) (w : World) (hr0 : Kd.C k38 w A0 l0.length l0) (hc0 : l0.length ≤ c0) (h : impl_Rank.f k l0 = some r) :
    Calls Try.prog 69 #[.slice A0 l0.length c0] w fun e w' => e = .returned (.int .i64 r) ∧ Below w.heap.size w w' := by
  have hu105 := Try.underlying105
  have hu38 := Try.underlying38
  have hu54 := Try.underlying54
  have HR0 := Aside0.mk hr0
  have HC0 := Aside0.mk hc0
  clear hr0 hc0
  have HB := Aside0.mk (Below.refl w.heap.size w)
  have H : (impl_Rank.l0 k 0 l0 (l0.length : Int) 0 0 0 0 0 0 0) = some r := h
  clear h
  have H' := Aside0.mk H
  clear H
  go_enter Try.func69, Try.ntmps69
  go_wp2_with (first | ((with_reducible refine gate_dst (N := 3) rfl ?_); refine box_event ?hg (N := 3) ?hd (cs := #[.int .i64 0, .int .i64 0, .int .i64 0, .int .i64 0, .int .i64 0, .int .i64 0]) (t := 105) ?hr ?_; (case hd => rfl); (case hg => rfl); (case hr => first | (go_simp; done) | (go_simp; rfl)); intro gb916 hg w2 hbox hb; have n0_ := Aside0.mk (below_step (by repeat (first | (with_reducible first | exact HB.out | apply below_alloc | apply pw_below_drewN | apply below_drew1) | exact HB.out)) hb); have n1_ := Aside0.mk (hbox); have n2_ := Aside0.mk ((by rw [hg]; exact (below_size (by repeat (first | (with_reducible first | exact HB.out | apply below_alloc | apply pw_below_drewN | apply below_drew1) | exact HB.out))) : w.heap.size ≤ gb916)); have n3_ := Aside0.mk ((by rw [hg]; exact (below_size (by repeat (first | (with_reducible first | exact HB.out | apply below_alloc | apply pw_below_drewN | apply below_drew1) | exact HB.out))) : w.heap.size ≤ gb916)); clear HB; have HB := n0_; have BK916 := n1_; have GW916 := n2_; have GE916 := n3_; clear n0_ n1_ n2_ n3_; clear hb hbox hg))
  go_loopg [4, 10] k (fun kq v4 v10 w' => ∃ (x4_1 : Int) (x10_1 : Int) (x917000_1 : Int) (x917001_1 : Int) (x917002_1 : Int) (x917003_1 : Int) (x917004_1 : Int) (x917005_1 : Int), v4 = .int .i64 x4_1 ∧ v10 = .int .i64 x10_1 ∧ Aside0 (impl_Rank.l0 kq x4_1 l0 (l0.length : Int) x10_1 x917000_1 x917001_1 x917002_1 x917003_1 x917004_1 x917005_1 = some r) ∧ Aside0 (kq ≤ k) ∧ Aside0 (w'.heap[gb916]? = some (.cells #[.int .i64 x917000_1, .int .i64 x917001_1, .int .i64 x917002_1, .int .i64 x917003_1, .int .i64 x917004_1, .int .i64 x917005_1] 105 (0, 0))) ∧ Aside0 (Below w.heap.size w w'))
  case atStart => exact ⟨(0), (0), (0), (0), (0), (0), (0), (0), (by first | rfl | (simp; done) | (simp [*]; done) | (simp [wrap64]; done)), (by first | rfl | (simp; done) | (simp [*]; done) | (simp [wrap64]; done)), H', ⟨Nat.le_refl _⟩, ⟨by (with_reducible repeat (first | refine blk_drewN ?_ _ | refine blk_drew ?_ | refine blk_alloc ?_ _)); exact BK916.out⟩, ⟨by repeat (first | (with_reducible first | exact HB.out | apply below_alloc | apply pw_below_drewN | apply below_drew1 | refine below_set ?_ GE916.out) | exact HB.out)⟩⟩
  case round =>
    clear H'
    try clear p2
    obtain ⟨x4_1, x10_1, x917000_1, x917001_1, x917002_1, x917003_1, x917004_1, x917005_1, rfl, rfl, HA, HK1, BK916, HB⟩ := hrel
    cases gk with
    | zero => exact absurd HA.out (by simp [impl_Rank.l0])
    | succ k1 =>
      have H := HA.out
      clear HA
      simp only [impl_Rank.l0] at H
      by_cases c3 : x10_1 < (l0.length : Int)
      · rw [if_pos c3] at H
        have c3b0 : decide (x10_1 < (l0.length : Int)) = true := decide_eq_true c3
        clear c3
        by_cases c4 : 0 ≤ x10_1
        · rw [if_pos c4] at H
          have c4b0 : decide (0 ≤ x10_1) = true := decide_eq_true c4
          clear c4
          by_cases c5 : x10_1 < (l0.length : Int)
          · rw [if_pos c5] at H
            have c5b0 : decide (x10_1 < (l0.length : Int)) = true := decide_eq_true c5
            clear c5
            replace H := Option.bind_eq_some_iff.mp H
            obtain ⟨⟨t919, t920, t921, t922⟩, A60, H⟩ := H
            replace H : ((impl_normal.f t919 t920 t921 t922).bind fun bt923 => (if x4_1 = 0 then (impl_Rank.j1 k1 x4_1 l0 (l0.length : Int) x10_1 (!(bt923.1 == 0) || (!(bt923.2.1 == 0) || (!(bt923.2.2 == 0)))) x917000_1 x917001_1 x917002_1 x917003_1 x917004_1 x917005_1 bt923.1 bt923.2.1 bt923.2.2) else (impl_Rank.j1 k1 x4_1 l0 (l0.length : Int) x10_1 false x917000_1 x917001_1 x917002_1 x917003_1 x917004_1 x917005_1 bt923.1 bt923.2.1 bt923.2.2))) = some r := H
            have A6 := Aside0.mk A60
            clear A60
            replace H := Option.bind_eq_some_iff.mp H
            obtain ⟨⟨t923, t924, t925⟩, A70, H⟩ := H
            replace H : (if x4_1 = 0 then (impl_Rank.j1 k1 x4_1 l0 (l0.length : Int) x10_1 (!(t923 == 0) || (!(t924 == 0) || (!(t925 == 0)))) x917000_1 x917001_1 x917002_1 x917003_1 x917004_1 x917005_1 t923 t924 t925) else (impl_Rank.j1 k1 x4_1 l0 (l0.length : Int) x10_1 false x917000_1 x917001_1 x917002_1 x917003_1 x917004_1 x917005_1 t923 t924 t925)) = some r := H
            have A7 := Aside0.mk A70
            clear A70
            have HC8 := Aside0.mk H
            clear H
            have p917 : 0 ≤ (x10_1 : Int) := of_decide_eq_true (by first | (with_reducible assumption) | assumption)
            have q917 : x10_1 < (l0.length : Int) := of_decide_eq_true (by first | (with_reducible assumption) | assumption)
            obtain ⟨ad917, e917, hx917_0, hx917_1, hx917_2, hx917_3⟩ := at_T38 HR0.out x10_1 p917 q917
            cases e917
            replace hx917_0 := (HB.out.cell (World.block_lt_of_cell? w _ hx917_0)).trans hx917_0
            replace hx917_1 := (HB.out.cell (World.block_lt_of_cell? w _ hx917_1)).trans hx917_1
            replace hx917_2 := (HB.out.cell (World.block_lt_of_cell? w _ hx917_2)).trans hx917_2
            replace hx917_3 := (HB.out.cell (World.block_lt_of_cell? w _ hx917_3)).trans hx917_3
            replace p917 := eq_true p917
            replace q917 := eq_true q917
            go_upto_region 7 with (first | ((with_reducible refine gate_dst (N := 6) rfl ?_); refine box_event ?hg (N := 6) ?hd (cs := #[.int .i64 0, .int .i64 0, .int .i64 0, .int .i64 0]) (t := 38) ?hr ?_; (case hd => rfl); (case hg => rfl); (case hr => first | (go_simp; done) | (go_simp; rfl)); intro gb918 hg w9 hbox hb; have n0_ := Aside0.mk (blk_below (g := gb916) (o := .cells #[.int .i64 x917000_1, .int .i64 x917001_1, .int .i64 x917002_1, .int .i64 x917003_1, .int .i64 x917004_1, .int .i64 x917005_1] 105 (0, 0)) (by (with_reducible repeat (first | refine blk_drewN ?_ _ | refine blk_drew ?_ | refine blk_alloc ?_ _)); exact BK916.out) hb); have n1_ := Aside0.mk (below_step (by repeat (first | (with_reducible first | exact HB.out | apply below_alloc | apply pw_below_drewN | apply below_drew1 | refine below_set ?_ GE916.out) | exact HB.out)) hb); have n2_ := Aside0.mk (hbox); have n3_ := Aside0.mk ((by rw [hg]; exact (below_size (by repeat (first | (with_reducible first | exact HB.out | apply below_alloc | apply pw_below_drewN | apply below_drew1 | refine below_set ?_ GE916.out) | exact HB.out))) : w.heap.size ≤ gb918)); have n4_ := Aside0.mk ((by rw [hg]; exact (below_size (by repeat (first | (with_reducible first | exact HB.out | apply below_alloc | apply pw_below_drewN | apply below_drew1 | refine below_set ?_ GE916.out) | exact HB.out))) : w.heap.size ≤ gb918)); have n5_ := Aside0.mk ((by rw [hg]; exact Nat.ne_of_lt (blk_lt (g := gb916) (o := .cells #[.int .i64 x917000_1, .int .i64 x917001_1, .int .i64 x917002_1, .int .i64 x917003_1, .int .i64 x917004_1, .int .i64 x917005_1] 105 (0, 0)) (by (with_reducible repeat (first | refine blk_drewN ?_ _ | refine blk_drew ?_ | refine blk_alloc ?_ _)); exact BK916.out)) : gb916 ≠ gb918)); have n6_ := Aside0.mk ((by rw [hg]; exact Nat.ne_of_gt (blk_lt (g := gb916) (o := .cells #[.int .i64 x917000_1, .int .i64 x917001_1, .int .i64 x917002_1, .int .i64 x917003_1, .int .i64 x917004_1, .int .i64 x917005_1] 105 (0, 0)) (by (with_reducible repeat (first | refine blk_drewN ?_ _ | refine blk_drew ?_ | refine blk_alloc ?_ _)); exact BK916.out)) : gb918 ≠ gb916)); clear BK916; clear HB; have BK916 := n0_; have HB := n1_; have BK918 := n2_; have GW918 := n3_; have GE918 := n4_; have NB916_918 := n5_; have NB918_916 := n6_; clear n0_ n1_ n2_ n3_ n4_ n5_ n6_; clear hb hbox hg; have hnb10 := NB918_916.out; have hnc10 := NB916_918.out; have hcz11_0 : w9.cell? ⟨gb918, 0, none⟩ = some (.int .i64 0) := (blk_cell BK918.out 0).trans rfl; have hcz11_1 : w9.cell? ⟨gb918, 1, none⟩ = some (.int .i64 0) := (blk_cell BK918.out 1).trans rfl; have hcz11_2 : w9.cell? ⟨gb918, 2, none⟩ = some (.int .i64 0) := (blk_cell BK918.out 2).trans rfl; have hcz11_3 : w9.cell? ⟨gb918, 3, none⟩ = some (.int .i64 0) := (blk_cell BK918.out 3).trans rfl; have hfz11_0 := blk_frozen BK918.out 0; have hfz11_1 := blk_frozen BK918.out 1; have hfz11_2 := blk_frozen BK918.out 2; have hfz11_3 := blk_frozen BK918.out 3) | ((with_reducible refine gate_callee (f := 118) rfl ?_); refine goesL_ (some 15) rfl rfl Try.func118 (by kernel_rfl) rfl #[.agg #[.int .i64 ((rd_T38 l0 x10_1).f0), .int .i64 ((rd_T38 l0 x10_1).f1), .int .i64 ((rd_T38 l0 x10_1).f2), .int .i64 ((rd_T38 l0 x10_1).f3)]] rfl (by (try simp only [List.map_toArray, List.map_cons, List.map_nil]); first | done | rfl | (simp only [List.length_drop, List.length_take]; rfl)) ?_; (with_reducible refine (impl_taken.calls k1 ((rd_T38 l0 x10_1).f0) ((rd_T38 l0 x10_1).f1) ((rd_T38 l0 x10_1).f2) ((rd_T38 l0 x10_1).f3) t919 t920 t921 t922 _ A6.out).mono ?_); rintro e w12 ⟨rfl, hb⟩; refine ⟨_, rfl, ?_⟩; have n0_ := Aside0.mk (blk_below (g := gb916) (o := .cells #[.int .i64 x917000_1, .int .i64 x917001_1, .int .i64 x917002_1, .int .i64 x917003_1, .int .i64 x917004_1, .int .i64 x917005_1] 105 (0, 0)) (by (with_reducible repeat (first | refine blk_drewN ?_ _ | refine blk_drew ?_ | refine blk_alloc ?_ _)); refine blk_far ?_ NB916_918.out _; (with_reducible repeat (first | refine blk_drewN ?_ _ | refine blk_drew ?_ | refine blk_alloc ?_ _)); refine blk_far ?_ NB916_918.out _; (with_reducible repeat (first | refine blk_drewN ?_ _ | refine blk_drew ?_ | refine blk_alloc ?_ _)); refine blk_far ?_ NB916_918.out _; (with_reducible repeat (first | refine blk_drewN ?_ _ | refine blk_drew ?_ | refine blk_alloc ?_ _)); refine blk_far ?_ NB916_918.out _; (with_reducible repeat (first | refine blk_drewN ?_ _ | refine blk_drew ?_ | refine blk_alloc ?_ _)); exact BK916.out) hb); have n1_ := Aside0.mk (blk_below (g := gb918) (o := .cells #[.int .i64 ((rd_T38 l0 x10_1).f0), .int .i64 ((rd_T38 l0 x10_1).f1), .int .i64 ((rd_T38 l0 x10_1).f2), .int .i64 ((rd_T38 l0 x10_1).f3)] 38 (0, 0)) (by (with_reducible repeat (first | refine blk_drewN ?_ _ | refine blk_drew ?_ | refine blk_alloc ?_ _)); refine blk_put (cs := #[.int .i64 ((rd_T38 l0 x10_1).f0), .int .i64 ((rd_T38 l0 x10_1).f1), .int .i64 ((rd_T38 l0 x10_1).f2), .int .i64 0]) ?_ 3 _ rfl; (with_reducible repeat (first | refine blk_drewN ?_ _ | refine blk_drew ?_ | refine blk_alloc ?_ _)); refine blk_put (cs := #[.int .i64 ((rd_T38 l0 x10_1).f0), .int .i64 ((rd_T38 l0 x10_1).f1), .int .i64 0, .int .i64 0]) ?_ 2 _ rfl; (with_reducible repeat (first | refine blk_drewN ?_ _ | refine blk_drew ?_ | refine blk_alloc ?_ _)); refine blk_put (cs := #[.int .i64 ((rd_T38 l0 x10_1).f0), .int .i64 0, .int .i64 0, .int .i64 0]) ?_ 1 _ rfl; (with_reducible repeat (first | refine blk_drewN ?_ _ | refine blk_drew ?_ | refine blk_alloc ?_ _)); refine blk_put (cs := #[.int .i64 0, .int .i64 0, .int .i64 0, .int .i64 0]) ?_ 0 _ rfl; (with_reducible repeat (first | refine blk_drewN ?_ _ | refine blk_drew ?_ | refine blk_alloc ?_ _)); exact BK918.out) hb); have n2_ := Aside0.mk (below_step (by repeat (first | (with_reducible first | exact HB.out | apply below_alloc | apply pw_below_drewN | apply below_drew1 | refine below_set ?_ GE916.out | refine below_set ?_ GE918.out) | exact HB.out)) hb); clear BK916; clear BK918; clear HB; have BK916 := n0_; have BK918 := n1_; have HB := n2_; clear n0_ n1_ n2_; (try clear hb); (try clear hb2); (try clear hk); (try clear hi)) | ((with_reducible refine gate_callee (f := 117) rfl ?_); refine goesL_ (some 16) rfl rfl Try.func117 (by kernel_rfl) rfl #[.agg #[.int .i64 t919, .int .i64 t920, .int .i64 t921, .int .i64 t922]] rfl (by (try simp only [List.map_toArray, List.map_cons, List.map_nil]); first | done | rfl | (simp only [List.length_drop, List.length_take]; rfl)) ?_; (with_reducible refine (impl_normal.calls t919 t920 t921 t922 t923 t924 t925 _ A7.out).mono ?_); rintro e w13 ⟨rfl, hb⟩; refine ⟨_, rfl, ?_⟩; have n0_ := Aside0.mk (blk_below (g := gb916) (o := .cells #[.int .i64 x917000_1, .int .i64 x917001_1, .int .i64 x917002_1, .int .i64 x917003_1, .int .i64 x917004_1, .int .i64 x917005_1] 105 (0, 0)) (by (with_reducible repeat (first | refine blk_drewN ?_ _ | refine blk_drew ?_ | refine blk_alloc ?_ _)); exact BK916.out) hb); have n1_ := Aside0.mk (blk_below (g := gb918) (o := .cells #[.int .i64 ((rd_T38 l0 x10_1).f0), .int .i64 ((rd_T38 l0 x10_1).f1), .int .i64 ((rd_T38 l0 x10_1).f2), .int .i64 ((rd_T38 l0 x10_1).f3)] 38 (0, 0)) (by (with_reducible repeat (first | refine blk_drewN ?_ _ | refine blk_drew ?_ | refine blk_alloc ?_ _)); exact BK918.out) hb); have n2_ := Aside0.mk (below_step (by repeat (first | (with_reducible first | exact HB.out | apply below_alloc | apply pw_below_drewN | apply below_drew1 | refine below_set ?_ GE916.out | refine below_set ?_ GE918.out) | exact HB.out)) hb); clear BK916; clear BK918; clear HB; have BK916 := n0_; have BK918 := n1_; have HB := n2_; clear n0_ n1_ n2_; (try clear hb); (try clear hb2); (try clear hk); (try clear hi)) | ((with_reducible refine gate_dst (N := 7) rfl ?_); refine box_event ?hg (N := 7) ?hd (cs := #[.int .i64 0, .int .i64 0, .int .i64 0]) (t := 54) ?hr ?_; (case hd => rfl); (case hg => rfl); (case hr => first | (go_simp; done) | (go_simp; rfl)); intro gb926 hg w14 hbox hb; have n0_ := Aside0.mk (blk_below (g := gb916) (o := .cells #[.int .i64 x917000_1, .int .i64 x917001_1, .int .i64 x917002_1, .int .i64 x917003_1, .int .i64 x917004_1, .int .i64 x917005_1] 105 (0, 0)) (by (with_reducible repeat (first | refine blk_drewN ?_ _ | refine blk_drew ?_ | refine blk_alloc ?_ _)); exact BK916.out) hb); have n1_ := Aside0.mk (blk_below (g := gb918) (o := .cells #[.int .i64 ((rd_T38 l0 x10_1).f0), .int .i64 ((rd_T38 l0 x10_1).f1), .int .i64 ((rd_T38 l0 x10_1).f2), .int .i64 ((rd_T38 l0 x10_1).f3)] 38 (0, 0)) (by (with_reducible repeat (first | refine blk_drewN ?_ _ | refine blk_drew ?_ | refine blk_alloc ?_ _)); exact BK918.out) hb); have n2_ := Aside0.mk (below_step (by repeat (first | (with_reducible first | exact HB.out | apply below_alloc | apply pw_below_drewN | apply below_drew1 | refine below_set ?_ GE916.out | refine below_set ?_ GE918.out) | exact HB.out)) hb); have n3_ := Aside0.mk (hbox); have n4_ := Aside0.mk ((by rw [hg]; exact (below_size (by repeat (first | (with_reducible first | exact HB.out | apply below_alloc | apply pw_below_drewN | apply below_drew1 | refine below_set ?_ GE916.out | refine below_set ?_ GE918.out) | exact HB.out))) : w.heap.size ≤ gb926)); have n5_ := Aside0.mk ((by rw [hg]; exact (below_size (by repeat (first | (with_reducible first | exact HB.out | apply below_alloc | apply pw_below_drewN | apply below_drew1 | refine below_set ?_ GE916.out | refine below_set ?_ GE918.out) | exact HB.out))) : w.heap.size ≤ gb926)); have n6_ := Aside0.mk ((by rw [hg]; exact Nat.ne_of_lt (blk_lt (g := gb916) (o := .cells #[.int .i64 x917000_1, .int .i64 x917001_1, .int .i64 x917002_1, .int .i64 x917003_1, .int .i64 x917004_1, .int .i64 x917005_1] 105 (0, 0)) (by (with_reducible repeat (first | refine blk_drewN ?_ _ | refine blk_drew ?_ | refine blk_alloc ?_ _)); exact BK916.out)) : gb916 ≠ gb926)); have n7_ := Aside0.mk ((by rw [hg]; exact Nat.ne_of_gt (blk_lt (g := gb916) (o := .cells #[.int .i64 x917000_1, .int .i64 x917001_1, .int .i64 x917002_1, .int .i64 x917003_1, .int .i64 x917004_1, .int .i64 x917005_1] 105 (0, 0)) (by (with_reducible repeat (first | refine blk_drewN ?_ _ | refine blk_drew ?_ | refine blk_alloc ?_ _)); exact BK916.out)) : gb926 ≠ gb916)); have n8_ := Aside0.mk ((by rw [hg]; exact Nat.ne_of_lt (blk_lt (g := gb918) (o := .cells #[.int .i64 ((rd_T38 l0 x10_1).f0), .int .i64 ((rd_T38 l0 x10_1).f1), .int .i64 ((rd_T38 l0 x10_1).f2), .int .i64 ((rd_T38 l0 x10_1).f3)] 38 (0, 0)) (by (with_reducible repeat (first | refine blk_drewN ?_ _ | refine blk_drew ?_ | refine blk_alloc ?_ _)); exact BK918.out)) : gb918 ≠ gb926)); have n9_ := Aside0.mk ((by rw [hg]; exact Nat.ne_of_gt (blk_lt (g := gb918) (o := .cells #[.int .i64 ((rd_T38 l0 x10_1).f0), .int .i64 ((rd_T38 l0 x10_1).f1), .int .i64 ((rd_T38 l0 x10_1).f2), .int .i64 ((rd_T38 l0 x10_1).f3)] 38 (0, 0)) (by (with_reducible repeat (first | refine blk_drewN ?_ _ | refine blk_drew ?_ | refine blk_alloc ?_ _)); exact BK918.out)) : gb926 ≠ gb918)); clear BK916; clear BK918; clear HB; have BK916 := n0_; have BK918 := n1_; have HB := n2_; have BK926 := n3_; have GW926 := n4_; have GE926 := n5_; have NB916_926 := n6_; have NB926_916 := n7_; have NB918_926 := n8_; have NB926_918 := n9_; clear n0_ n1_ n2_ n3_ n4_ n5_ n6_ n7_ n8_ n9_; clear hb hbox hg; have hnb15 := NB926_916.out; have hnc15 := NB916_926.out; have hnb16 := NB926_918.out; have hnc16 := NB918_926.out; have hcz17_0 : w14.cell? ⟨gb926, 0, none⟩ = some (.int .i64 0) := (blk_cell BK926.out 0).trans rfl; have hcz17_1 : w14.cell? ⟨gb926, 1, none⟩ = some (.int .i64 0) := (blk_cell BK926.out 1).trans rfl; have hcz17_2 : w14.cell? ⟨gb926, 2, none⟩ = some (.int .i64 0) := (blk_cell BK926.out 2).trans rfl; have hfz17_0 := blk_frozen BK926.out 0; have hfz17_1 := blk_frozen BK926.out 1; have hfz17_2 := blk_frozen BK926.out 2))
            (try simp only [Act.put, List.setIfInBounds_toArray, List.set_cons_zero, List.set_cons_succ])
            go_cut [17] (fun v17 wc => ∃ (kq : Nat) (x17_7 : Bool), v17 = .bool x17_7 ∧ Aside0 (impl_Rank.j1 kq x4_1 l0 (l0.length : Int) x10_1 x17_7 x917000_1 x917001_1 x917002_1 x917003_1 x917004_1 x917005_1 t923 t924 t925 = some r) ∧ Aside0 (kq ≤ k1) ∧ Aside0 (wc.heap[gb916]? = some (.cells #[.int .i64 x917000_1, .int .i64 x917001_1, .int .i64 x917002_1, .int .i64 x917003_1, .int .i64 x917004_1, .int .i64 x917005_1] 105 (0, 0))) ∧ Aside0 (wc.heap[gb918]? = some (.cells #[.int .i64 ((rd_T38 l0 x10_1).f0), .int .i64 ((rd_T38 l0 x10_1).f1), .int .i64 ((rd_T38 l0 x10_1).f2), .int .i64 ((rd_T38 l0 x10_1).f3)] 38 (0, 0))) ∧ Aside0 (wc.heap[gb926]? = some (.cells #[.int .i64 t923, .int .i64 t924, .int .i64 t925] 54 (0, 0))) ∧ Aside0 (Below w.heap.size w wc))
            case first =>
              have H := HC8.out
              clear HC8
              by_cases c18 : x4_1 = 0
              · rw [if_pos c18] at H
                have c18b0 : (x4_1 == 0) = true := beq_iff_eq.mpr c18
                have c18b1 : (x4_1 != 0) = false := bne_eq_false_iff_eq.mpr c18
                clear c18
                (first | rw [c18b0] | (simp only [i64_w, i32_w]; rw [c18b0]) | skip)
                have H' := Aside0.mk H
                clear H
                have hnb19 := NB926_916.out
                have hnc19 := NB916_926.out
                have hnb20 := NB926_918.out
                have hnc20 := NB918_926.out
                have hcz21_0 : w14.cell? ⟨gb926, 0, none⟩ = some (.int .i64 0) := (blk_cell BK926.out 0).trans rfl
                have hcz21_1 : w14.cell? ⟨gb926, 1, none⟩ = some (.int .i64 0) := (blk_cell BK926.out 1).trans rfl
                have hcz21_2 : w14.cell? ⟨gb926, 2, none⟩ = some (.int .i64 0) := (blk_cell BK926.out 2).trans rfl
                have hfz21_0 := blk_frozen BK926.out 0
                have hfz21_1 := blk_frozen BK926.out 1
                have hfz21_2 := blk_frozen BK926.out 2
                go_wp2
                go_meet
                case rel => exact ⟨_, ((!(t923 == 0) || (!(t924 == 0) || (!(t925 == 0))))), (by first | rfl | (simp; done) | (simp [*]; done) | (simp [wrap64]; done)), H', ⟨by have := HK1.out; first | omega | exact Nat.le_refl _⟩, ⟨by (with_reducible repeat (first | refine blk_drewN ?_ _ | refine blk_drew ?_ | refine blk_alloc ?_ _)); refine blk_far ?_ NB916_926.out _; (with_reducible repeat (first | refine blk_drewN ?_ _ | refine blk_drew ?_ | refine blk_alloc ?_ _)); refine blk_far ?_ NB916_926.out _; (with_reducible repeat (first | refine blk_drewN ?_ _ | refine blk_drew ?_ | refine blk_alloc ?_ _)); refine blk_far ?_ NB916_926.out _; (with_reducible repeat (first | refine blk_drewN ?_ _ | refine blk_drew ?_ | refine blk_alloc ?_ _)); exact BK916.out⟩, ⟨by (with_reducible repeat (first | refine blk_drewN ?_ _ | refine blk_drew ?_ | refine blk_alloc ?_ _)); refine blk_far ?_ NB918_926.out _; (with_reducible repeat (first | refine blk_drewN ?_ _ | refine blk_drew ?_ | refine blk_alloc ?_ _)); refine blk_far ?_ NB918_926.out _; (with_reducible repeat (first | refine blk_drewN ?_ _ | refine blk_drew ?_ | refine blk_alloc ?_ _)); refine blk_far ?_ NB918_926.out _; (with_reducible repeat (first | refine blk_drewN ?_ _ | refine blk_drew ?_ | refine blk_alloc ?_ _)); exact BK918.out⟩, ⟨by (with_reducible repeat (first | refine blk_drewN ?_ _ | refine blk_drew ?_ | refine blk_alloc ?_ _)); refine blk_put (cs := #[.int .i64 t923, .int .i64 t924, .int .i64 0]) ?_ 2 _ rfl; (with_reducible repeat (first | refine blk_drewN ?_ _ | refine blk_drew ?_ | refine blk_alloc ?_ _)); refine blk_put (cs := #[.int .i64 t923, .int .i64 0, .int .i64 0]) ?_ 1 _ rfl; (with_reducible repeat (first | refine blk_drewN ?_ _ | refine blk_drew ?_ | refine blk_alloc ?_ _)); refine blk_put (cs := #[.int .i64 0, .int .i64 0, .int .i64 0]) ?_ 0 _ rfl; (with_reducible repeat (first | refine blk_drewN ?_ _ | refine blk_drew ?_ | refine blk_alloc ?_ _)); exact BK926.out⟩, ⟨by repeat (first | (with_reducible first | exact HB.out | apply below_alloc | apply pw_below_drewN | apply below_drew1 | refine below_set ?_ GE916.out | refine below_set ?_ GE918.out | refine below_set ?_ GE926.out) | exact HB.out)⟩⟩
              · rw [if_neg c18] at H
                have c18b0 : (x4_1 == 0) = false := beq_eq_false_iff_ne.mpr c18
                have c18b1 : (x4_1 != 0) = true := bne_iff_ne.mpr c18
                (first | rw [c18b0] | (simp only [i64_w, i32_w]; rw [c18b0]) | skip)
                have H' := Aside0.mk H
                clear H
                go_wp2
                go_meet
                case rel => exact ⟨_, (false), (by first | rfl | (simp; done) | (simp [*]; done) | (simp [wrap64]; done)), H', ⟨by have := HK1.out; first | omega | exact Nat.le_refl _⟩, ⟨by (with_reducible repeat (first | refine blk_drewN ?_ _ | refine blk_drew ?_ | refine blk_alloc ?_ _)); refine blk_far ?_ NB916_926.out _; (with_reducible repeat (first | refine blk_drewN ?_ _ | refine blk_drew ?_ | refine blk_alloc ?_ _)); refine blk_far ?_ NB916_926.out _; (with_reducible repeat (first | refine blk_drewN ?_ _ | refine blk_drew ?_ | refine blk_alloc ?_ _)); refine blk_far ?_ NB916_926.out _; (with_reducible repeat (first | refine blk_drewN ?_ _ | refine blk_drew ?_ | refine blk_alloc ?_ _)); exact BK916.out⟩, ⟨by (with_reducible repeat (first | refine blk_drewN ?_ _ | refine blk_drew ?_ | refine blk_alloc ?_ _)); refine blk_far ?_ NB918_926.out _; (with_reducible repeat (first | refine blk_drewN ?_ _ | refine blk_drew ?_ | refine blk_alloc ?_ _)); refine blk_far ?_ NB918_926.out _; (with_reducible repeat (first | refine blk_drewN ?_ _ | refine blk_drew ?_ | refine blk_alloc ?_ _)); refine blk_far ?_ NB918_926.out _; (with_reducible repeat (first | refine blk_drewN ?_ _ | refine blk_drew ?_ | refine blk_alloc ?_ _)); exact BK918.out⟩, ⟨by (with_reducible repeat (first | refine blk_drewN ?_ _ | refine blk_drew ?_ | refine blk_alloc ?_ _)); refine blk_put (cs := #[.int .i64 t923, .int .i64 t924, .int .i64 0]) ?_ 2 _ rfl; (with_reducible repeat (first | refine blk_drewN ?_ _ | refine blk_drew ?_ | refine blk_alloc ?_ _)); refine blk_put (cs := #[.int .i64 t923, .int .i64 0, .int .i64 0]) ?_ 1 _ rfl; (with_reducible repeat (first | refine blk_drewN ?_ _ | refine blk_drew ?_ | refine blk_alloc ?_ _)); refine blk_put (cs := #[.int .i64 0, .int .i64 0, .int .i64 0]) ?_ 0 _ rfl; (with_reducible repeat (first | refine blk_drewN ?_ _ | refine blk_drew ?_ | refine blk_alloc ?_ _)); exact BK926.out⟩, ⟨by repeat (first | (with_reducible first | exact HB.out | apply below_alloc | apply pw_below_drewN | apply below_drew1 | refine below_set ?_ GE916.out | refine below_set ?_ GE918.out | refine below_set ?_ GE926.out) | exact HB.out)⟩⟩
            case rest =>
              clear HC8
              try clear c1
              try clear c2
              try clear p2
              try clear c3
              try clear c3b0
              try clear c4
              try clear c4b0
              try clear c5
              try clear c5b0
              try clear c6
              try clear p6
              try clear p9
              try clear q9
              try clear hx9
              try clear c10
              try clear c11
              try clear c15
              try clear c16
              try clear c18
              try clear c18b0
              try clear c18b1
              try clear c19
              try clear c20
              try clear hcz11_0
              try clear hcz11_1
              try clear hcz11_2
              try clear hcz11_3
              try clear hcz17_0
              try clear hcz17_1
              try clear hcz17_2
              try clear hcz21_0
              try clear hcz21_1
              try clear hcz21_2
              try clear hfz11_0
              try clear hfz11_1
              try clear hfz11_2
              try clear hfz11_3
              try clear hfz17_0
              try clear hfz17_1
              try clear hfz17_2
              try clear hfz21_0
              try clear hfz21_1
              try clear hfz21_2
              try clear hx917_0
              try clear hx917_1
              try clear hx917_2
              try clear hx917_3
              try clear p2
              try clear p917
              try clear q917
              obtain ⟨kq, x17_7, rfl, HA, HJ7, BK916, BK918, BK926, HB⟩ := hcut
              cases kq with
              | zero => exact absurd HA.out (by simp [impl_Rank.j1])
              | succ kj7 =>
                have H := HA.out
                clear HA
                simp only [impl_Rank.j1] at H
                by_cases c22 : x17_7 = true
                · subst c22
                  have H1 : (impl_Rank.l0 kj7 1 l0 (l0.length : Int) (wrap64 (x10_1 + 1)) t923 t924 t925 x917003_1 x917004_1 x917005_1) = some r := by rw [if_pos rfl] at H; exact H
                  clear H
                  have H := H1
                  clear H1
                  have H' := Aside0.mk H
                  clear H
                  have hnb23 := NB926_916.out
                  have hnc23 := NB916_926.out
                  have hnb24 := NB926_918.out
                  have hnc24 := NB918_926.out
                  have hcz25_0 : wc.cell? ⟨gb926, 0, none⟩ = some (.int .i64 t923) := (blk_cell BK926.out 0).trans rfl
                  have hcz25_1 : wc.cell? ⟨gb926, 1, none⟩ = some (.int .i64 t924) := (blk_cell BK926.out 1).trans rfl
                  have hcz25_2 : wc.cell? ⟨gb926, 2, none⟩ = some (.int .i64 t925) := (blk_cell BK926.out 2).trans rfl
                  have hfz25_0 := blk_frozen BK926.out 0
                  have hfz25_1 := blk_frozen BK926.out 1
                  have hfz25_2 := blk_frozen BK926.out 2
                  have hnb26 := NB916_918.out
                  have hnc26 := NB918_916.out
                  have hcz27_0 : wc.cell? ⟨gb916, 0, none⟩ = some (.int .i64 x917000_1) := (blk_cell BK916.out 0).trans rfl
                  have hcz27_1 : wc.cell? ⟨gb916, 1, none⟩ = some (.int .i64 x917001_1) := (blk_cell BK916.out 1).trans rfl
                  have hcz27_2 : wc.cell? ⟨gb916, 2, none⟩ = some (.int .i64 x917002_1) := (blk_cell BK916.out 2).trans rfl
                  have hcz27_3 : wc.cell? ⟨gb916, 3, none⟩ = some (.int .i64 x917003_1) := (blk_cell BK916.out 3).trans rfl
                  have hcz27_4 : wc.cell? ⟨gb916, 4, none⟩ = some (.int .i64 x917004_1) := (blk_cell BK916.out 4).trans rfl
                  have hcz27_5 : wc.cell? ⟨gb916, 5, none⟩ = some (.int .i64 x917005_1) := (blk_cell BK916.out 5).trans rfl
                  have hfz27_0 := blk_frozen BK916.out 0
                  have hfz27_1 := blk_frozen BK916.out 1
                  have hfz27_2 := blk_frozen BK916.out 2
                  have hfz27_3 := blk_frozen BK916.out 3
                  have hfz27_4 := blk_frozen BK916.out 4
                  have hfz27_5 := blk_frozen BK916.out 5
                  go_wp2
                  go_roundg kj7
                  case measure => have := HK1.out; have := HJ7.out; omega
                  case rel => exact ⟨(1), (wrap64 (x10_1 + 1)), (t923), (t924), (t925), (x917003_1), (x917004_1), (x917005_1), (by first | rfl | (simp; done) | (simp [*]; done) | (simp [wrap64]; done)), (by first | rfl | (simp; done) | (simp [*]; done) | (simp [wrap64]; done)), H', ⟨by have := HK1.out; have := HJ7.out; omega⟩, ⟨by (with_reducible repeat (first | refine blk_drewN ?_ _ | refine blk_drew ?_ | refine blk_alloc ?_ _)); refine blk_put (cs := #[.int .i64 t923, .int .i64 t924, .int .i64 x917002_1, .int .i64 x917003_1, .int .i64 x917004_1, .int .i64 x917005_1]) ?_ 2 _ rfl; (with_reducible repeat (first | refine blk_drewN ?_ _ | refine blk_drew ?_ | refine blk_alloc ?_ _)); refine blk_put (cs := #[.int .i64 t923, .int .i64 x917001_1, .int .i64 x917002_1, .int .i64 x917003_1, .int .i64 x917004_1, .int .i64 x917005_1]) ?_ 1 _ rfl; (with_reducible repeat (first | refine blk_drewN ?_ _ | refine blk_drew ?_ | refine blk_alloc ?_ _)); refine blk_put (cs := #[.int .i64 x917000_1, .int .i64 x917001_1, .int .i64 x917002_1, .int .i64 x917003_1, .int .i64 x917004_1, .int .i64 x917005_1]) ?_ 0 _ rfl; (with_reducible repeat (first | refine blk_drewN ?_ _ | refine blk_drew ?_ | refine blk_alloc ?_ _)); exact BK916.out⟩, ⟨by repeat (first | (with_reducible first | exact HB.out | apply below_alloc | apply pw_below_drewN | apply below_drew1 | refine below_set ?_ GE916.out | refine below_set ?_ GE918.out | refine below_set ?_ GE926.out) | exact HB.out)⟩⟩
                · replace c22 := Bool.eq_false_iff.mpr c22
                  subst c22
                  have H1 : (if x4_1 = 1 then ((impl_crossOf.f x917000_1 x917001_1 x917002_1 t923 t924 t925).bind fun bt927 => (impl_Rank.j2 kj7 x4_1 l0 (l0.length : Int) x10_1 (!(bt927.1 == 0) || (!(bt927.2.1 == 0) || (!(bt927.2.2 == 0)))) x917000_1 x917001_1 x917002_1 x917003_1 x917004_1 x917005_1 t923 t924 t925)) else (impl_Rank.j2 kj7 x4_1 l0 (l0.length : Int) x10_1 false x917000_1 x917001_1 x917002_1 x917003_1 x917004_1 x917005_1 t923 t924 t925)) = some r := by rw [if_neg (show ¬ (false = true) by decide)] at H; exact H
                  clear H
                  have H := H1
                  clear H1
                  have HC28 := Aside0.mk H
                  clear H
                  go_upto_region 9 with (fail)
                  go_cut [27] (fun v27 wc => ∃ (kq : Nat) (x27_27 : Bool), v27 = .bool x27_27 ∧ Aside0 (impl_Rank.j2 kq x4_1 l0 (l0.length : Int) x10_1 x27_27 x917000_1 x917001_1 x917002_1 x917003_1 x917004_1 x917005_1 t923 t924 t925 = some r) ∧ Aside0 (kq ≤ kj7) ∧ Aside0 (wc.heap[gb916]? = some (.cells #[.int .i64 x917000_1, .int .i64 x917001_1, .int .i64 x917002_1, .int .i64 x917003_1, .int .i64 x917004_1, .int .i64 x917005_1] 105 (0, 0))) ∧ Aside0 (wc.heap[gb918]? = some (.cells #[.int .i64 ((rd_T38 l0 x10_1).f0), .int .i64 ((rd_T38 l0 x10_1).f1), .int .i64 ((rd_T38 l0 x10_1).f2), .int .i64 ((rd_T38 l0 x10_1).f3)] 38 (0, 0))) ∧ Aside0 (wc.heap[gb926]? = some (.cells #[.int .i64 t923, .int .i64 t924, .int .i64 t925] 54 (0, 0))) ∧ Aside0 (Below w.heap.size w wc))
                  case first =>
                    have H := HC28.out
                    clear HC28
                    by_cases c29 : x4_1 = 1
                    · rw [if_pos c29] at H
                      have c29b0 : (x4_1 == 1) = true := beq_iff_eq.mpr c29
                      have c29b1 : (x4_1 != 1) = false := bne_eq_false_iff_eq.mpr c29
                      clear c29
                      (first | rw [c29b0] | (simp only [i64_w, i32_w]; rw [c29b0]) | skip)
                      replace H := Option.bind_eq_some_iff.mp H
                      obtain ⟨⟨t927, t928, t929⟩, A300, H⟩ := H
                      replace H : (impl_Rank.j2 kj7 x4_1 l0 (l0.length : Int) x10_1 (!(t927 == 0) || (!(t928 == 0) || (!(t929 == 0)))) x917000_1 x917001_1 x917002_1 x917003_1 x917004_1 x917005_1 t923 t924 t925) = some r := H
                      have A30 := Aside0.mk A300
                      clear A300
                      have H' := Aside0.mk H
                      clear H
                      have hnb31 := NB916_918.out
                      have hnc31 := NB918_916.out
                      have hnb32 := NB916_926.out
                      have hnc32 := NB926_916.out
                      have hcz33_0 : wc.cell? ⟨gb916, 0, none⟩ = some (.int .i64 x917000_1) := (blk_cell BK916.out 0).trans rfl
                      have hcz33_1 : wc.cell? ⟨gb916, 1, none⟩ = some (.int .i64 x917001_1) := (blk_cell BK916.out 1).trans rfl
                      have hcz33_2 : wc.cell? ⟨gb916, 2, none⟩ = some (.int .i64 x917002_1) := (blk_cell BK916.out 2).trans rfl
                      have hcz33_3 : wc.cell? ⟨gb916, 3, none⟩ = some (.int .i64 x917003_1) := (blk_cell BK916.out 3).trans rfl
                      have hcz33_4 : wc.cell? ⟨gb916, 4, none⟩ = some (.int .i64 x917004_1) := (blk_cell BK916.out 4).trans rfl
                      have hcz33_5 : wc.cell? ⟨gb916, 5, none⟩ = some (.int .i64 x917005_1) := (blk_cell BK916.out 5).trans rfl
                      have hfz33_0 := blk_frozen BK916.out 0
                      have hfz33_1 := blk_frozen BK916.out 1
                      have hfz33_2 := blk_frozen BK916.out 2
                      have hfz33_3 := blk_frozen BK916.out 3
                      have hfz33_4 := blk_frozen BK916.out 4
                      have hfz33_5 := blk_frozen BK916.out 5
                      have hnb34 := NB926_918.out
                      have hnc34 := NB918_926.out
                      have hcz35_0 : wc.cell? ⟨gb926, 0, none⟩ = some (.int .i64 t923) := (blk_cell BK926.out 0).trans rfl
                      have hcz35_1 : wc.cell? ⟨gb926, 1, none⟩ = some (.int .i64 t924) := (blk_cell BK926.out 1).trans rfl
                      have hcz35_2 : wc.cell? ⟨gb926, 2, none⟩ = some (.int .i64 t925) := (blk_cell BK926.out 2).trans rfl
                      have hfz35_0 := blk_frozen BK926.out 0
                      have hfz35_1 := blk_frozen BK926.out 1
                      have hfz35_2 := blk_frozen BK926.out 2
                      go_wp2_with (first | (go_at_call 116; (with_reducible refine (impl_crossOf.calls x917000_1 x917001_1 x917002_1 t923 t924 t925 t927 t928 t929 _ A30.out).mono ?_); rintro e w36 ⟨rfl, hb⟩; have n0_ := Aside0.mk (blk_below (g := gb916) (o := .cells #[.int .i64 x917000_1, .int .i64 x917001_1, .int .i64 x917002_1, .int .i64 x917003_1, .int .i64 x917004_1, .int .i64 x917005_1] 105 (0, 0)) (by (with_reducible repeat (first | refine blk_drewN ?_ _ | refine blk_drew ?_ | refine blk_alloc ?_ _)); exact BK916.out) hb); have n1_ := Aside0.mk (blk_below (g := gb918) (o := .cells #[.int .i64 ((rd_T38 l0 x10_1).f0), .int .i64 ((rd_T38 l0 x10_1).f1), .int .i64 ((rd_T38 l0 x10_1).f2), .int .i64 ((rd_T38 l0 x10_1).f3)] 38 (0, 0)) (by (with_reducible repeat (first | refine blk_drewN ?_ _ | refine blk_drew ?_ | refine blk_alloc ?_ _)); exact BK918.out) hb); have n2_ := Aside0.mk (blk_below (g := gb926) (o := .cells #[.int .i64 t923, .int .i64 t924, .int .i64 t925] 54 (0, 0)) (by (with_reducible repeat (first | refine blk_drewN ?_ _ | refine blk_drew ?_ | refine blk_alloc ?_ _)); exact BK926.out) hb); have n3_ := Aside0.mk (below_step (by repeat (first | (with_reducible first | exact HB.out | apply below_alloc | apply pw_below_drewN | apply below_drew1 | refine below_set ?_ GE916.out | refine below_set ?_ GE918.out | refine below_set ?_ GE926.out) | exact HB.out)) hb); clear BK916; clear BK918; clear BK926; clear HB; have BK916 := n0_; have BK918 := n1_; have BK926 := n2_; have HB := n3_; clear n0_ n1_ n2_ n3_; (try clear hb); (try clear hb2); (try clear hk); (try clear hi)))
                      go_meet
                      case rel => exact ⟨_, ((!(t927 == 0) || (!(t928 == 0) || (!(t929 == 0))))), (by first | rfl | (simp; done) | (simp [*]; done) | (simp [wrap64]; done)), H', ⟨by have := HK1.out; have := HJ7.out; first | omega | exact Nat.le_refl _⟩, ⟨by (with_reducible repeat (first | refine blk_drewN ?_ _ | refine blk_drew ?_ | refine blk_alloc ?_ _)); exact BK916.out⟩, ⟨by (with_reducible repeat (first | refine blk_drewN ?_ _ | refine blk_drew ?_ | refine blk_alloc ?_ _)); exact BK918.out⟩, ⟨by (with_reducible repeat (first | refine blk_drewN ?_ _ | refine blk_drew ?_ | refine blk_alloc ?_ _)); exact BK926.out⟩, ⟨by repeat (first | (with_reducible first | exact HB.out | apply below_alloc | apply pw_below_drewN | apply below_drew1 | refine below_set ?_ GE916.out | refine below_set ?_ GE918.out | refine below_set ?_ GE926.out) | exact HB.out)⟩⟩
                    · rw [if_neg c29] at H
                      have c29b0 : (x4_1 == 1) = false := beq_eq_false_iff_ne.mpr c29
                      have c29b1 : (x4_1 != 1) = true := bne_iff_ne.mpr c29
                      (first | rw [c29b0] | (simp only [i64_w, i32_w]; rw [c29b0]) | skip)
                      have H' := Aside0.mk H
                      clear H
                      go_wp2
                      go_meet
                      case rel => exact ⟨_, (false), (by first | rfl | (simp; done) | (simp [*]; done) | (simp [wrap64]; done)), H', ⟨by have := HK1.out; have := HJ7.out; first | omega | exact Nat.le_refl _⟩, ⟨by (with_reducible repeat (first | refine blk_drewN ?_ _ | refine blk_drew ?_ | refine blk_alloc ?_ _)); exact BK916.out⟩, ⟨by (with_reducible repeat (first | refine blk_drewN ?_ _ | refine blk_drew ?_ | refine blk_alloc ?_ _)); exact BK918.out⟩, ⟨by (with_reducible repeat (first | refine blk_drewN ?_ _ | refine blk_drew ?_ | refine blk_alloc ?_ _)); exact BK926.out⟩, ⟨by repeat (first | (with_reducible first | exact HB.out | apply below_alloc | apply pw_below_drewN | apply below_drew1 | refine below_set ?_ GE916.out | refine below_set ?_ GE918.out | refine below_set ?_ GE926.out) | exact HB.out)⟩⟩
                  case rest =>
                    clear HC28
                    try clear c1
                    try clear c2
                    try clear p2
                    try clear c3
                    try clear c3b0
                    try clear c4
                    try clear c4b0
                    try clear c5
                    try clear c5b0
                    try clear c6
                    try clear p6
                    try clear p9
                    try clear q9
                    try clear hx9
                    try clear c10
                    try clear c11
                    try clear c15
                    try clear c16
                    try clear c18
                    try clear c18b0
                    try clear c18b1
                    try clear c19
                    try clear c20
                    try clear c22
                    try clear c23
                    try clear c24
                    try clear c26
                    try clear c29
                    try clear c29b0
                    try clear c29b1
                    try clear c31
                    try clear c32
                    try clear c34
                    try clear hcz11_0
                    try clear hcz11_1
                    try clear hcz11_2
                    try clear hcz11_3
                    try clear hcz17_0
                    try clear hcz17_1
                    try clear hcz17_2
                    try clear hcz21_0
                    try clear hcz21_1
                    try clear hcz21_2
                    try clear hcz25_0
                    try clear hcz25_1
                    try clear hcz25_2
                    try clear hcz27_0
                    try clear hcz27_1
                    try clear hcz27_2
                    try clear hcz27_3
                    try clear hcz27_4
                    try clear hcz27_5
                    try clear hcz33_0
                    try clear hcz33_1
                    try clear hcz33_2
                    try clear hcz33_3
                    try clear hcz33_4
                    try clear hcz33_5
                    try clear hcz35_0
                    try clear hcz35_1
                    try clear hcz35_2
                    try clear hfz11_0
                    try clear hfz11_1
                    try clear hfz11_2
                    try clear hfz11_3
                    try clear hfz17_0
                    try clear hfz17_1
                    try clear hfz17_2
                    try clear hfz21_0
                    try clear hfz21_1
                    try clear hfz21_2
                    try clear hfz25_0
                    try clear hfz25_1
                    try clear hfz25_2
                    try clear hfz27_0
                    try clear hfz27_1
                    try clear hfz27_2
                    try clear hfz27_3
                    try clear hfz27_4
                    try clear hfz27_5
                    try clear hfz33_0
                    try clear hfz33_1
                    try clear hfz33_2
                    try clear hfz33_3
                    try clear hfz33_4
                    try clear hfz33_5
                    try clear hfz35_0
                    try clear hfz35_1
                    try clear hfz35_2
                    try clear hx917_0
                    try clear hx917_1
                    try clear hx917_2
                    try clear hx917_3
                    try clear p2
                    try clear p6
                    try clear p9
                    try clear p917
                    try clear q9
                    try clear q917
                    obtain ⟨kq, x27_27, rfl, HA, HJ27, BK916, BK918, BK926, HB⟩ := hcut
                    cases kq with
                    | zero => exact absurd HA.out (by simp [impl_Rank.j2])
                    | succ kj27 =>
                      have H := HA.out
                      clear HA
                      simp only [impl_Rank.j2] at H
                      by_cases c37 : x27_27 = true
                      · subst c37
                        have H1 : (impl_Rank.l0 kj27 2 l0 (l0.length : Int) (wrap64 (x10_1 + 1)) x917000_1 x917001_1 x917002_1 t923 t924 t925) = some r := by rw [if_pos rfl] at H; exact H
                        clear H
                        have H := H1
                        clear H1
                        have H' := Aside0.mk H
                        clear H
                        have hnb38 := NB926_916.out
                        have hnc38 := NB916_926.out
                        have hnb39 := NB926_918.out
                        have hnc39 := NB918_926.out
                        have hcz40_0 : wc.cell? ⟨gb926, 0, none⟩ = some (.int .i64 t923) := (blk_cell BK926.out 0).trans rfl
                        have hcz40_1 : wc.cell? ⟨gb926, 1, none⟩ = some (.int .i64 t924) := (blk_cell BK926.out 1).trans rfl
                        have hcz40_2 : wc.cell? ⟨gb926, 2, none⟩ = some (.int .i64 t925) := (blk_cell BK926.out 2).trans rfl
                        have hfz40_0 := blk_frozen BK926.out 0
                        have hfz40_1 := blk_frozen BK926.out 1
                        have hfz40_2 := blk_frozen BK926.out 2
                        have hnb41 := NB916_918.out
                        have hnc41 := NB918_916.out
                        have hcz42_0 : wc.cell? ⟨gb916, 0, none⟩ = some (.int .i64 x917000_1) := (blk_cell BK916.out 0).trans rfl
                        have hcz42_1 : wc.cell? ⟨gb916, 1, none⟩ = some (.int .i64 x917001_1) := (blk_cell BK916.out 1).trans rfl
                        have hcz42_2 : wc.cell? ⟨gb916, 2, none⟩ = some (.int .i64 x917002_1) := (blk_cell BK916.out 2).trans rfl
                        have hcz42_3 : wc.cell? ⟨gb916, 3, none⟩ = some (.int .i64 x917003_1) := (blk_cell BK916.out 3).trans rfl
                        have hcz42_4 : wc.cell? ⟨gb916, 4, none⟩ = some (.int .i64 x917004_1) := (blk_cell BK916.out 4).trans rfl
                        have hcz42_5 : wc.cell? ⟨gb916, 5, none⟩ = some (.int .i64 x917005_1) := (blk_cell BK916.out 5).trans rfl
                        have hfz42_0 := blk_frozen BK916.out 0
                        have hfz42_1 := blk_frozen BK916.out 1
                        have hfz42_2 := blk_frozen BK916.out 2
                        have hfz42_3 := blk_frozen BK916.out 3
                        have hfz42_4 := blk_frozen BK916.out 4
                        have hfz42_5 := blk_frozen BK916.out 5
                        go_wp2
                        go_roundg kj27
                        case measure => have := HK1.out; have := HJ7.out; have := HJ27.out; omega
                        case rel => exact ⟨(2), (wrap64 (x10_1 + 1)), (x917000_1), (x917001_1), (x917002_1), (t923), (t924), (t925), (by first | rfl | (simp; done) | (simp [*]; done) | (simp [wrap64]; done)), (by first | rfl | (simp; done) | (simp [*]; done) | (simp [wrap64]; done)), H', ⟨by have := HK1.out; have := HJ7.out; have := HJ27.out; omega⟩, ⟨by (with_reducible repeat (first | refine blk_drewN ?_ _ | refine blk_drew ?_ | refine blk_alloc ?_ _)); refine blk_put (cs := #[.int .i64 x917000_1, .int .i64 x917001_1, .int .i64 x917002_1, .int .i64 t923, .int .i64 t924, .int .i64 x917005_1]) ?_ 5 _ rfl; (with_reducible repeat (first | refine blk_drewN ?_ _ | refine blk_drew ?_ | refine blk_alloc ?_ _)); refine blk_put (cs := #[.int .i64 x917000_1, .int .i64 x917001_1, .int .i64 x917002_1, .int .i64 t923, .int .i64 x917004_1, .int .i64 x917005_1]) ?_ 4 _ rfl; (with_reducible repeat (first | refine blk_drewN ?_ _ | refine blk_drew ?_ | refine blk_alloc ?_ _)); refine blk_put (cs := #[.int .i64 x917000_1, .int .i64 x917001_1, .int .i64 x917002_1, .int .i64 x917003_1, .int .i64 x917004_1, .int .i64 x917005_1]) ?_ 3 _ rfl; (with_reducible repeat (first | refine blk_drewN ?_ _ | refine blk_drew ?_ | refine blk_alloc ?_ _)); exact BK916.out⟩, ⟨by repeat (first | (with_reducible first | exact HB.out | apply below_alloc | apply pw_below_drewN | apply below_drew1 | refine below_set ?_ GE916.out | refine below_set ?_ GE918.out | refine below_set ?_ GE926.out) | exact HB.out)⟩⟩
                      · replace c37 := Bool.eq_false_iff.mpr c37
                        subst c37
                        have H1 : (if x4_1 = 2 then ((impl_det.f x917000_1 x917001_1 x917002_1 x917003_1 x917004_1 x917005_1 t923 t924 t925).bind fun t930 => (impl_Rank.j3 kj27 x4_1 l0 (l0.length : Int) x10_1 (t930 != 0) x917000_1 x917001_1 x917002_1 x917003_1 x917004_1 x917005_1)) else (impl_Rank.j3 kj27 x4_1 l0 (l0.length : Int) x10_1 false x917000_1 x917001_1 x917002_1 x917003_1 x917004_1 x917005_1)) = some r := by rw [if_neg (show ¬ (false = true) by decide)] at H; exact H
                        clear H
                        have H := H1
                        clear H1
                        have HC43 := Aside0.mk H
                        clear H
                        go_upto_region 11 with (fail)
                        go_cut [40] (fun v40 wc => ∃ (kq : Nat) (x40_42 : Bool), v40 = .bool x40_42 ∧ Aside0 (impl_Rank.j3 kq x4_1 l0 (l0.length : Int) x10_1 x40_42 x917000_1 x917001_1 x917002_1 x917003_1 x917004_1 x917005_1 = some r) ∧ Aside0 (kq ≤ kj27) ∧ Aside0 (wc.heap[gb916]? = some (.cells #[.int .i64 x917000_1, .int .i64 x917001_1, .int .i64 x917002_1, .int .i64 x917003_1, .int .i64 x917004_1, .int .i64 x917005_1] 105 (0, 0))) ∧ Aside0 (wc.heap[gb918]? = some (.cells #[.int .i64 ((rd_T38 l0 x10_1).f0), .int .i64 ((rd_T38 l0 x10_1).f1), .int .i64 ((rd_T38 l0 x10_1).f2), .int .i64 ((rd_T38 l0 x10_1).f3)] 38 (0, 0))) ∧ Aside0 (wc.heap[gb926]? = some (.cells #[.int .i64 t923, .int .i64 t924, .int .i64 t925] 54 (0, 0))) ∧ Aside0 (Below w.heap.size w wc))
                        case first =>
                          have H := HC43.out
                          clear HC43
                          by_cases c44 : x4_1 = 2
                          · rw [if_pos c44] at H
                            have c44b0 : (x4_1 == 2) = true := beq_iff_eq.mpr c44
                            have c44b1 : (x4_1 != 2) = false := bne_eq_false_iff_eq.mpr c44
                            clear c44
                            (first | rw [c44b0] | (simp only [i64_w, i32_w]; rw [c44b0]) | skip)
                            replace H := Option.bind_eq_some_iff.mp H
                            obtain ⟨t930, A450, H⟩ := H
                            replace H : (impl_Rank.j3 kj27 x4_1 l0 (l0.length : Int) x10_1 (t930 != 0) x917000_1 x917001_1 x917002_1 x917003_1 x917004_1 x917005_1) = some r := H
                            have A45 := Aside0.mk A450
                            clear A450
                            have H' := Aside0.mk H
                            clear H
                            have hnb46 := NB916_918.out
                            have hnc46 := NB918_916.out
                            have hnb47 := NB916_926.out
                            have hnc47 := NB926_916.out
                            have hcz48_0 : wc.cell? ⟨gb916, 0, none⟩ = some (.int .i64 x917000_1) := (blk_cell BK916.out 0).trans rfl
                            have hcz48_1 : wc.cell? ⟨gb916, 1, none⟩ = some (.int .i64 x917001_1) := (blk_cell BK916.out 1).trans rfl
                            have hcz48_2 : wc.cell? ⟨gb916, 2, none⟩ = some (.int .i64 x917002_1) := (blk_cell BK916.out 2).trans rfl
                            have hcz48_3 : wc.cell? ⟨gb916, 3, none⟩ = some (.int .i64 x917003_1) := (blk_cell BK916.out 3).trans rfl
                            have hcz48_4 : wc.cell? ⟨gb916, 4, none⟩ = some (.int .i64 x917004_1) := (blk_cell BK916.out 4).trans rfl
                            have hcz48_5 : wc.cell? ⟨gb916, 5, none⟩ = some (.int .i64 x917005_1) := (blk_cell BK916.out 5).trans rfl
                            have hfz48_0 := blk_frozen BK916.out 0
                            have hfz48_1 := blk_frozen BK916.out 1
                            have hfz48_2 := blk_frozen BK916.out 2
                            have hfz48_3 := blk_frozen BK916.out 3
                            have hfz48_4 := blk_frozen BK916.out 4
                            have hfz48_5 := blk_frozen BK916.out 5
                            have hnb49 := NB926_918.out
                            have hnc49 := NB918_926.out
                            have hcz50_0 : wc.cell? ⟨gb926, 0, none⟩ = some (.int .i64 t923) := (blk_cell BK926.out 0).trans rfl
                            have hcz50_1 : wc.cell? ⟨gb926, 1, none⟩ = some (.int .i64 t924) := (blk_cell BK926.out 1).trans rfl
                            have hcz50_2 : wc.cell? ⟨gb926, 2, none⟩ = some (.int .i64 t925) := (blk_cell BK926.out 2).trans rfl
                            have hfz50_0 := blk_frozen BK926.out 0
                            have hfz50_1 := blk_frozen BK926.out 1
                            have hfz50_2 := blk_frozen BK926.out 2
                            go_wp2_with (first | (go_at_call 137; (with_reducible refine (impl_det.calls x917000_1 x917001_1 x917002_1 x917003_1 x917004_1 x917005_1 t923 t924 t925 t930 _ A45.out).mono ?_); rintro e w51 ⟨rfl, hb⟩; have n0_ := Aside0.mk (blk_below (g := gb916) (o := .cells #[.int .i64 x917000_1, .int .i64 x917001_1, .int .i64 x917002_1, .int .i64 x917003_1, .int .i64 x917004_1, .int .i64 x917005_1] 105 (0, 0)) (by (with_reducible repeat (first | refine blk_drewN ?_ _ | refine blk_drew ?_ | refine blk_alloc ?_ _)); exact BK916.out) hb); have n1_ := Aside0.mk (blk_below (g := gb918) (o := .cells #[.int .i64 ((rd_T38 l0 x10_1).f0), .int .i64 ((rd_T38 l0 x10_1).f1), .int .i64 ((rd_T38 l0 x10_1).f2), .int .i64 ((rd_T38 l0 x10_1).f3)] 38 (0, 0)) (by (with_reducible repeat (first | refine blk_drewN ?_ _ | refine blk_drew ?_ | refine blk_alloc ?_ _)); exact BK918.out) hb); have n2_ := Aside0.mk (blk_below (g := gb926) (o := .cells #[.int .i64 t923, .int .i64 t924, .int .i64 t925] 54 (0, 0)) (by (with_reducible repeat (first | refine blk_drewN ?_ _ | refine blk_drew ?_ | refine blk_alloc ?_ _)); exact BK926.out) hb); have n3_ := Aside0.mk (below_step (by repeat (first | (with_reducible first | exact HB.out | apply below_alloc | apply pw_below_drewN | apply below_drew1 | refine below_set ?_ GE916.out | refine below_set ?_ GE918.out | refine below_set ?_ GE926.out) | exact HB.out)) hb); clear BK916; clear BK918; clear BK926; clear HB; have BK916 := n0_; have BK918 := n1_; have BK926 := n2_; have HB := n3_; clear n0_ n1_ n2_ n3_; (try clear hb); (try clear hb2); (try clear hk); (try clear hi)))
                            go_meet
                            case rel => exact ⟨_, ((t930 != 0)), (by first | rfl | (simp; done) | (simp [*]; done) | (simp [wrap64]; done)), H', ⟨by have := HK1.out; have := HJ7.out; have := HJ27.out; first | omega | exact Nat.le_refl _⟩, ⟨by (with_reducible repeat (first | refine blk_drewN ?_ _ | refine blk_drew ?_ | refine blk_alloc ?_ _)); exact BK916.out⟩, ⟨by (with_reducible repeat (first | refine blk_drewN ?_ _ | refine blk_drew ?_ | refine blk_alloc ?_ _)); exact BK918.out⟩, ⟨by (with_reducible repeat (first | refine blk_drewN ?_ _ | refine blk_drew ?_ | refine blk_alloc ?_ _)); exact BK926.out⟩, ⟨by repeat (first | (with_reducible first | exact HB.out | apply below_alloc | apply pw_below_drewN | apply below_drew1 | refine below_set ?_ GE916.out | refine below_set ?_ GE918.out | refine below_set ?_ GE926.out) | exact HB.out)⟩⟩
                          · rw [if_neg c44] at H
                            have c44b0 : (x4_1 == 2) = false := beq_eq_false_iff_ne.mpr c44
                            have c44b1 : (x4_1 != 2) = true := bne_iff_ne.mpr c44
                            (first | rw [c44b0] | (simp only [i64_w, i32_w]; rw [c44b0]) | skip)
                            have H' := Aside0.mk H
                            clear H
                            go_wp2
                            go_meet
                            case rel => exact ⟨_, (false), (by first | rfl | (simp; done) | (simp [*]; done) | (simp [wrap64]; done)), H', ⟨by have := HK1.out; have := HJ7.out; have := HJ27.out; first | omega | exact Nat.le_refl _⟩, ⟨by (with_reducible repeat (first | refine blk_drewN ?_ _ | refine blk_drew ?_ | refine blk_alloc ?_ _)); exact BK916.out⟩, ⟨by (with_reducible repeat (first | refine blk_drewN ?_ _ | refine blk_drew ?_ | refine blk_alloc ?_ _)); exact BK918.out⟩, ⟨by (with_reducible repeat (first | refine blk_drewN ?_ _ | refine blk_drew ?_ | refine blk_alloc ?_ _)); exact BK926.out⟩, ⟨by repeat (first | (with_reducible first | exact HB.out | apply below_alloc | apply pw_below_drewN | apply below_drew1 | refine below_set ?_ GE916.out | refine below_set ?_ GE918.out | refine below_set ?_ GE926.out) | exact HB.out)⟩⟩
                        case rest =>
                          clear HC43
                          try clear c1
                          try clear c2
                          try clear p2
                          try clear c3
                          try clear c3b0
                          try clear c4
                          try clear c4b0
                          try clear c5
                          try clear c5b0
                          try clear c6
                          try clear p6
                          try clear p9
                          try clear q9
                          try clear hx9
                          try clear c10
                          try clear c11
                          try clear c15
                          try clear c16
                          try clear c18
                          try clear c18b0
                          try clear c18b1
                          try clear c19
                          try clear c20
                          try clear c22
                          try clear c23
                          try clear c24
                          try clear c26
                          try clear c29
                          try clear c29b0
                          try clear c29b1
                          try clear c31
                          try clear c32
                          try clear c34
                          try clear c37
                          try clear c38
                          try clear c39
                          try clear c41
                          try clear c44
                          try clear c44b0
                          try clear c44b1
                          try clear c46
                          try clear c47
                          try clear c49
                          try clear hcz11_0
                          try clear hcz11_1
                          try clear hcz11_2
                          try clear hcz11_3
                          try clear hcz17_0
                          try clear hcz17_1
                          try clear hcz17_2
                          try clear hcz21_0
                          try clear hcz21_1
                          try clear hcz21_2
                          try clear hcz25_0
                          try clear hcz25_1
                          try clear hcz25_2
                          try clear hcz27_0
                          try clear hcz27_1
                          try clear hcz27_2
                          try clear hcz27_3
                          try clear hcz27_4
                          try clear hcz27_5
                          try clear hcz33_0
                          try clear hcz33_1
                          try clear hcz33_2
                          try clear hcz33_3
                          try clear hcz33_4
                          try clear hcz33_5
                          try clear hcz35_0
                          try clear hcz35_1
                          try clear hcz35_2
                          try clear hcz40_0
                          try clear hcz40_1
                          try clear hcz40_2
                          try clear hcz42_0
                          try clear hcz42_1
                          try clear hcz42_2
                          try clear hcz42_3
                          try clear hcz42_4
                          try clear hcz42_5
                          try clear hcz48_0
                          try clear hcz48_1
                          try clear hcz48_2
                          try clear hcz48_3
                          try clear hcz48_4
                          try clear hcz48_5
                          try clear hcz50_0
                          try clear hcz50_1
                          try clear hcz50_2
                          try clear hfz11_0
                          try clear hfz11_1
                          try clear hfz11_2
                          try clear hfz11_3
                          try clear hfz17_0
                          try clear hfz17_1
                          try clear hfz17_2
                          try clear hfz21_0
                          try clear hfz21_1
                          try clear hfz21_2
                          try clear hfz25_0
                          try clear hfz25_1
                          try clear hfz25_2
                          try clear hfz27_0
                          try clear hfz27_1
                          try clear hfz27_2
                          try clear hfz27_3
                          try clear hfz27_4
                          try clear hfz27_5
                          try clear hfz33_0
                          try clear hfz33_1
                          try clear hfz33_2
                          try clear hfz33_3
                          try clear hfz33_4
                          try clear hfz33_5
                          try clear hfz35_0
                          try clear hfz35_1
                          try clear hfz35_2
                          try clear hfz40_0
                          try clear hfz40_1
                          try clear hfz40_2
                          try clear hfz42_0
                          try clear hfz42_1
                          try clear hfz42_2
                          try clear hfz42_3
                          try clear hfz42_4
                          try clear hfz42_5
                          try clear hfz48_0
                          try clear hfz48_1
                          try clear hfz48_2
                          try clear hfz48_3
                          try clear hfz48_4
                          try clear hfz48_5
                          try clear hfz50_0
                          try clear hfz50_1
                          try clear hfz50_2
                          try clear hx917_0
                          try clear hx917_1
                          try clear hx917_2
                          try clear hx917_3
                          try clear p2
                          try clear p6
                          try clear p9
                          try clear p917
                          try clear q9
                          try clear q917
                          obtain ⟨kq, x40_42, rfl, HA, HJ42, BK916, BK918, BK926, HB⟩ := hcut
                          cases kq with
                          | zero => exact absurd HA.out (by simp [impl_Rank.j3])
                          | succ kj42 =>
                            have H := HA.out
                            clear HA
                            simp only [impl_Rank.j3] at H
                            by_cases c52 : x40_42 = true
                            · subst c52
                              have H1 : (some 3) = some r := by rw [if_pos rfl] at H; exact H
                              clear H
                              have H := H1
                              clear H1
                              obtain rfl := Option.some.inj H
                              go_wp2
                              go_ret
                              exact ⟨by first | rfl | (simp [errW_none, errW_some] <;> rfl) | (simp [*, errW_none, errW_some] <;> rfl), by repeat (first | (with_reducible first | exact HB.out | apply below_alloc | apply pw_below_drewN | apply below_drew1 | refine below_set ?_ GE916.out | refine below_set ?_ GE918.out | refine below_set ?_ GE926.out) | exact HB.out)⟩
                            · replace c52 := Bool.eq_false_iff.mpr c52
                              subst c52
                              have H1 : (impl_Rank.l0 kj42 x4_1 l0 (l0.length : Int) (wrap64 (x10_1 + 1)) x917000_1 x917001_1 x917002_1 x917003_1 x917004_1 x917005_1) = some r := by rw [if_neg (show ¬ (false = true) by decide)] at H; exact H
                              clear H
                              have H := H1
                              clear H1
                              have H' := Aside0.mk H
                              clear H
                              go_wp2
                              go_roundg kj42
                              case measure => have := HK1.out; have := HJ7.out; have := HJ27.out; have := HJ42.out; omega
                              case rel => exact ⟨(x4_1), (wrap64 (x10_1 + 1)), (x917000_1), (x917001_1), (x917002_1), (x917003_1), (x917004_1), (x917005_1), (by first | rfl | (simp; done) | (simp [*]; done) | (simp [wrap64]; done)), (by first | rfl | (simp; done) | (simp [*]; done) | (simp [wrap64]; done)), H', ⟨by have := HK1.out; have := HJ7.out; have := HJ27.out; have := HJ42.out; omega⟩, ⟨by (with_reducible repeat (first | refine blk_drewN ?_ _ | refine blk_drew ?_ | refine blk_alloc ?_ _)); exact BK916.out⟩, ⟨by repeat (first | (with_reducible first | exact HB.out | apply below_alloc | apply pw_below_drewN | apply below_drew1 | refine below_set ?_ GE916.out | refine below_set ?_ GE918.out | refine below_set ?_ GE926.out) | exact HB.out)⟩⟩
          · rw [if_neg c5] at H
            exact absurd H (by simp)
        · rw [if_neg c4] at H
          exact absurd H (by simp)
      · rw [if_neg c3] at H
        have c3b0 : decide (x10_1 < (l0.length : Int)) = false := decide_eq_false c3
        clear c3
        obtain rfl := Option.some.inj H
        go_wp2
        go_ret
        exact ⟨by first | rfl | (simp [errW_none, errW_some] <;> rfl) | (simp [*, errW_none, errW_some] <;> rfl), by repeat (first | (with_reducible first | exact HB.out | apply below_alloc | apply pw_below_drewN | apply below_drew1 | refine below_set ?_ GE916.out) | exact HB.out)⟩

end Go.Proofs.Ytmcjkdbegkdhoaa.Print
