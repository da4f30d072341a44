-- Printed by a program of the session (mkprinter.py, over the kit's print); Lean checks it.
import Derived.Test.YtndedincanmaeaaCp
import Derived.Test.YtndedincanmaeaaPrint0
import Derived.Test.YtndedincanmaeaaPrint2
import Derived.Test.YtndedincanmaeaaPrint5
import Derived.Test.YtndedincanmaeaaPrint10
import Derived.Test.YtndedincanmaeaaPrint30
namespace Go.Proofs.Ytndedincanmaeaa.Print
open Go.RowKit Go.Proofs.YtndedincanmaeaaW.PrintWords Go.Proofs.YtndedincanmaeaaW.PrintLast Go.Proofs.Ytndedincanmaeaa.Cp
set_option linter.unusedVariables false
set_option linter.unusedSimpArgs false

attribute [local go_sem high] eqA128
/-! ### spec_l7Way: function 146 -/
def spec_l7Way.l0 : Nat → List (S23) → Int → Int → Int → Int → Int → Option (Bool)
 | 0, _, _, _, _, _, _ => none
 | k + 1, x0, x2, x7, x598000, x598001, x598002 => if x7 < (x0.length : Int) then (if 0 ≤ x7 then (if (wrap64 (x2 * (wrap64 ((wrap64 ((wrap64 (((rd_T23 x0 x7).f0) * x598000)) + (wrap64 (((rd_T23 x0 x7).f1) * x598001)))) + (wrap64 (((rd_T23 x0 x7).f2) * x598002)))))) < 0 then (some false) else (spec_l7Way.l0 k x0 x2 (wrap64 (x7 + 1)) x598000 x598001 x598002)) else (none)) else (some true)
def spec_l7Way.f (k : Nat) (l0 : List (S23)) (a1_0 : Int) (a1_1 : Int) (a1_2 : Int) (a2 : Int) : Option (Bool) := spec_l7Way.l0 k l0 a2 0 a1_0 a1_1 a1_2
theorem spec_l7Way.mono_l : ∀ k, (∀ y0 y1 y2 y3 y4 y5, LeO (spec_l7Way.l0 k y0 y1 y2 y3 y4 y5) (spec_l7Way.l0 (k + 1) y0 y1 y2 y3 y4 y5))
 | 0 => fun _ _ _ _ _ _ r h => by simp [spec_l7Way.l0] at h
 | k + 1 => by
  have ih0 := spec_l7Way.mono_l k
  intro y0 y1 y2 y3 y4 y5
  unfold spec_l7Way.l0
  repeat' first
  | (with_reducible exact ih0 _ _ _ _ _ _)
  | (with_reducible exact LeO.refl _)
  | (with_reducible exact LeO.none _)
  | (with_reducible refine LeO.ite ?_ ?_)
  | (with_reducible refine LeO.bind ?_ (fun _ => ?_))
  | exact ih0 _ _ _ _ _ _
  | exact LeO.none _
  | refine LeO.ite ?_ ?_
  | refine LeO.bind ?_ (fun _ => ?_)
theorem spec_l7Way.mono : ∀ a0 a1 a2 a3 a4 k, LeO (spec_l7Way.f k a0 a1 a2 a3 a4) (spec_l7Way.f (k + 1) a0 a1 a2 a3 a4) := by
 intro a0 a1 a2 a3 a4 k
 have ih0 := spec_l7Way.mono_l k
 unfold spec_l7Way.f
 repeat' first
   | (with_reducible exact ih0 _ _ _ _ _ _)
   | (with_reducible exact LeO.refl _)
   | (with_reducible exact LeO.none _)
   | (with_reducible refine LeO.ite ?_ ?_)
   | (with_reducible refine LeO.bind ?_ (fun _ => ?_))
   | exact ih0 _ _ _ _ _ _
   | exact LeO.none _
   | refine LeO.ite ?_ ?_
   | refine LeO.bind ?_ (fun _ => ?_)
set_option maxHeartbeats 8000000 in
set_option maxRecDepth 100000 in
theorem spec_l7Way.calls (k : Nat) (A0 : Option Addr) (c0 : Nat) (l0 : List (S23)) (a1_0 : Int) (a1_1 : Int) (a1_2 : Int) (a2 : Int) (r : Bool) (w : World) (hr0 : Kd.C k23 w A0 l0.length l0) (hc0 : l0.length ≤ c0) (h : spec_l7Way.f k l0 a1_0 a1_1 a1_2 a2 = some r) :
  Calls Try.prog 146 #[.slice A0 l0.length c0, .agg #[.int .i64 a1_0, .int .i64 a1_1, .int .i64 a1_2], .int .i64 a2] w fun e w' => e = .returned (.bool r) ∧ Below w.heap.size w w' := by
 have hu128 := Try.underlying128
 have HR0 := Aside0.mk hr0
 have HC0 := Aside0.mk hc0
 clear hr0 hc0
 have HB := Aside0.mk (Below.refl w.heap.size w)
 have H : (spec_l7Way.l0 k l0 a2 0 a1_0 a1_1 a1_2) = some r := h
 clear h
 have H' := Aside0.mk H
 clear H
 go_enter Try.func146, Try.ntmps146
 go_wp2_with (first | ((with_reducible refine gate_dst (N := 4) rfl ?_); refine box_event ?hg (N := 4) ?hd (cs := #[.int .i64 a1_0, .int .i64 a1_1, .int .i64 a1_2]) (t := 128) ?hr ?_; (case hd => rfl); (case hg => rfl); (case hr => first | (go_simp; done) | (go_simp; rfl)); intro g1 hg w4 hbox hb; have bK1 := Aside0.mk (hbox); have bW1 := gx hg HB; have bE1 := gx hg HB; replace HB := bt HB hb; clear hb hbox hg))
 repeat (go_quiet (first | ((with_reducible refine gate_dst (N := 4) rfl ?_); refine box_event ?hg (N := 4) ?hd (cs := #[.int .i64 a1_0, .int .i64 a1_1, .int .i64 a1_2]) (t := 128) ?hr ?_; (case hd => rfl); (case hg => rfl); (case hr => first | (go_simp; done) | (go_simp; rfl)); intro g1 hg w4 hbox hb; have bK1 := Aside0.mk (hbox); have bW1 := gx hg HB; have bE1 := gx hg HB; replace HB := bt HB hb; clear hb hbox hg)); try go_wp2_with (first | ((with_reducible refine gate_dst (N := 4) rfl ?_); refine box_event ?hg (N := 4) ?hd (cs := #[.int .i64 a1_0, .int .i64 a1_1, .int .i64 a1_2]) (t := 128) ?hr ?_; (case hd => rfl); (case hg => rfl); (case hr => first | (go_simp; done) | (go_simp; rfl)); intro g1 hg w4 hbox hb; have bK1 := Aside0.mk (hbox); have bW1 := gx hg HB; have bE1 := gx hg HB; replace HB := bt HB hb; clear hb hbox hg)))
 go_loopg [7] k (fun kq v7 w' => ∃ (x7_1 : Int), v7 = .int .i64 x7_1 ∧ Aside0 (spec_l7Way.l0 kq l0 a2 x7_1 a1_0 a1_1 a1_2 = some r) ∧ Aside0 (kq ≤ k) ∧ Aside0 (w'.heap[g1]? = some (.cells #[.int .i64 a1_0, .int .i64 a1_1, .int .i64 a1_2] 128 (0, 0))) ∧ Aside0 (Below w.heap.size w w'))
 case atStart => exact ⟨(0), re, H', ⟨Nat.le_refl _⟩, ⟨by (with_reducible repeat (first | refine blk_drewN ?_ _ | refine blk_drew ?_ | refine blk_alloc ?_ _)); exact bK1.out⟩, ⟨by repeat (first | (with_reducible first | exact HB.out | apply below_alloc | apply pw_below_drewN | apply below_drew1 | refine below_set ?_ bE1.out) | exact HB.out)⟩⟩
 case round =>
  clear H'
  obtain ⟨x7_1, rfl, HA, HK1, bK1, HB⟩ := hrel
  cases gk with
  | zero => exact absurd HA.out (by simp [spec_l7Way.l0])
  | succ k1 =>
   have H := HA.out
   clear HA
   simp only [spec_l7Way.l0] at H
   by_cases c5 : x7_1 < (l0.length : Int)
   ·rw [if_pos c5] at H
    have c5b0 : decide (x7_1 < (l0.length : Int)) = true := decide_eq_true c5
    clear c5
    by_cases c6 : 0 ≤ x7_1
    ·rw [if_pos c6] at H
     have c6b0 : decide (0 ≤ x7_1) = true := decide_eq_true c6
     clear c6
     by_cases c7 : (wrap64 (a2 * (wrap64 ((wrap64 ((wrap64 (((rd_T23 l0 x7_1).f0) * a1_0)) + (wrap64 (((rd_T23 l0 x7_1).f1) * a1_1)))) + (wrap64 (((rd_T23 l0 x7_1).f2) * a1_2)))))) < 0
     ·rw [if_pos c7] at H
      have c7b0 : decide ((wrap64 (a2 * (wrap64 ((wrap64 ((wrap64 (((rd_T23 l0 x7_1).f0) * a1_0)) + (wrap64 (((rd_T23 l0 x7_1).f1) * a1_1)))) + (wrap64 (((rd_T23 l0 x7_1).f2) * a1_2)))))) < 0) = true := decide_eq_true c7
      clear c7
      obtain rfl := Option.some.inj H
      have p598 : 0 ≤ (x7_1 : Int) := dk
      have q598 : x7_1 < (l0.length : Int) := dk
      obtain ⟨ad598, e598, hx598_0, hx598_1, hx598_2, hx598_3⟩ := at_T23 HR0.out x7_1 p598 q598
      cases e598
      replace hx598_0 := hc HB hx598_0
      replace hx598_1 := hc HB hx598_1
      replace hx598_2 := hc HB hx598_2
      replace hx598_3 := hc HB hx598_3
      replace p598 := eq_true p598
      replace q598 := eq_true q598
      obtain ⟨hcz8_0, hcz8_1, hcz8_2, hfz8_0, hfz8_1, hfz8_2⟩ := cz3 bK1
      have p599 : 0 ≤ (x7_1 : Int) := dk
      have q599 : x7_1 < (l0.length : Int) := dk
      obtain ⟨ad599, e599, hx599_0, hx599_1, hx599_2, hx599_3⟩ := at_T23 HR0.out x7_1 p599 q599
      obtain rfl : ad598 = ad599 := (by injection e599)
      replace hx599_0 := hc HB hx599_0
      replace hx599_1 := hc HB hx599_1
      replace hx599_2 := hc HB hx599_2
      replace hx599_3 := hc HB hx599_3
      replace p599 := eq_true p599
      replace q599 := eq_true q599
      have p600 : 0 ≤ (x7_1 : Int) := dk
      have q600 : x7_1 < (l0.length : Int) := dk
      obtain ⟨ad600, e600, hx600_0, hx600_1, hx600_2, hx600_3⟩ := at_T23 HR0.out x7_1 p600 q600
      obtain rfl : ad598 = ad600 := (by injection e600)
      replace hx600_0 := hc HB hx600_0
      replace hx600_1 := hc HB hx600_1
      replace hx600_2 := hc HB hx600_2
      replace hx600_3 := hc HB hx600_3
      replace p600 := eq_true p600
      replace q600 := eq_true q600
      go_wp2
      repeat (go_quiet (fail); try go_wp2)
      go_ret
      exact fin HB
     rw [if_neg c7] at H
     have c7b0 : decide ((wrap64 (a2 * (wrap64 ((wrap64 ((wrap64 (((rd_T23 l0 x7_1).f0) * a1_0)) + (wrap64 (((rd_T23 l0 x7_1).f1) * a1_1)))) + (wrap64 (((rd_T23 l0 x7_1).f2) * a1_2)))))) < 0) = false := decide_eq_false c7
     clear c7
     have H' := Aside0.mk H
     clear H
     have p598 : 0 ≤ (x7_1 : Int) := dk
     have q598 : x7_1 < (l0.length : Int) := dk
     obtain ⟨ad598, e598, hx598_0, hx598_1, hx598_2, hx598_3⟩ := at_T23 HR0.out x7_1 p598 q598
     cases e598
     replace hx598_0 := hc HB hx598_0
     replace hx598_1 := hc HB hx598_1
     replace hx598_2 := hc HB hx598_2
     replace hx598_3 := hc HB hx598_3
     replace p598 := eq_true p598
     replace q598 := eq_true q598
     obtain ⟨hcz9_0, hcz9_1, hcz9_2, hfz9_0, hfz9_1, hfz9_2⟩ := cz3 bK1
     have p599 : 0 ≤ (x7_1 : Int) := dk
     have q599 : x7_1 < (l0.length : Int) := dk
     obtain ⟨ad599, e599, hx599_0, hx599_1, hx599_2, hx599_3⟩ := at_T23 HR0.out x7_1 p599 q599
     obtain rfl : ad598 = ad599 := (by injection e599)
     replace hx599_0 := hc HB hx599_0
     replace hx599_1 := hc HB hx599_1
     replace hx599_2 := hc HB hx599_2
     replace hx599_3 := hc HB hx599_3
     replace p599 := eq_true p599
     replace q599 := eq_true q599
     have p600 : 0 ≤ (x7_1 : Int) := dk
     have q600 : x7_1 < (l0.length : Int) := dk
     obtain ⟨ad600, e600, hx600_0, hx600_1, hx600_2, hx600_3⟩ := at_T23 HR0.out x7_1 p600 q600
     obtain rfl : ad598 = ad600 := (by injection e600)
     replace hx600_0 := hc HB hx600_0
     replace hx600_1 := hc HB hx600_1
     replace hx600_2 := hc HB hx600_2
     replace hx600_3 := hc HB hx600_3
     replace p600 := eq_true p600
     replace q600 := eq_true q600
     go_wp2
     repeat (go_quiet (fail); try go_wp2)
     go_roundg k1
     case measure => have := HK1.out; omega
     case rel => exact ⟨(wrap64 (x7_1 + 1)), re, H', ⟨by have := HK1.out; omega⟩, ⟨by (with_reducible repeat (first | refine blk_drewN ?_ _ | refine blk_drew ?_ | refine blk_alloc ?_ _)); exact bK1.out⟩, ⟨by repeat (first | (with_reducible first | exact HB.out | apply below_alloc | apply pw_below_drewN | apply below_drew1 | refine below_set ?_ bE1.out) | exact HB.out)⟩⟩
    rw [if_neg c6] at H
    exact absurd H (by simp)
   rw [if_neg c5] at H
   have c5b0 : decide (x7_1 < (l0.length : Int)) = false := decide_eq_false c5
   clear c5
   obtain rfl := Option.some.inj H
   go_wp2
   repeat (go_quiet (fail); try go_wp2)
   go_ret
   exact fin HB

/-! ### spec_l7Bounded: function 110 -/
mutual
def spec_l7Bounded.l0 : Nat → List (S23) → Int → Option (Bool)
 | 0, _, _ => none
 | k + 1, x0, x3 => if x3 < (x0.length : Int) then (spec_l7Bounded.l1 k x0 x3 (wrap64 (x3 + 1))) else (some true)
def spec_l7Bounded.l1 : Nat → List (S23) → Int → Int → Option (Bool)
 | 0, _, _, _ => none
 | k + 1, x0, x3, x4 => if x4 < (x0.length : Int) then (if 0 ≤ x3 then (if x3 < (x0.length : Int) then (if 0 ≤ x4 then ((spec_l4Cross.f ((rd_T23 x0 x3).f0) ((rd_T23 x0 x3).f1) ((rd_T23 x0 x3).f2) ((rd_T23 x0 x3).f3) ((rd_T23 x0 x4).f0) ((rd_T23 x0 x4).f1) ((rd_T23 x0 x4).f2) ((rd_T23 x0 x4).f3)).bind fun bt604 => (if (!(bt604.1 == 0) || (!(bt604.2.1 == 0) || (!(bt604.2.2 == 0)))) = true then ((spec_l7Way.f k x0 bt604.1 bt604.2.1 bt604.2.2 1).bind fun t608 => (if t608 = true then (spec_l7Bounded.j2 k x0 x3 x4 true) else ((spec_l7Way.f k x0 bt604.1 bt604.2.1 bt604.2.2 (-1)).bind fun t609 => (spec_l7Bounded.j2 k x0 x3 x4 t609)))) else (spec_l7Bounded.j2 k x0 x3 x4 false))) else (none)) else (none)) else (none)) else (spec_l7Bounded.l0 k x0 (wrap64 (x3 + 1)))
def spec_l7Bounded.j2 : Nat → List (S23) → Int → Int → Bool → Option (Bool)
 | 0, _, _, _, _ => none
 | k + 1, x0, x3, x4, x44 => if x44 = true then (some false) else (spec_l7Bounded.l1 k x0 x3 (wrap64 (x4 + 1)))
end
def spec_l7Bounded.f (k : Nat) (l0 : List (S23)) : Option (Bool) := (spec_l4Rank.f k l0).bind fun t601 => (if t601 < 3 then (some false) else (spec_l7Bounded.l0 k l0 0))
theorem spec_l7Bounded.mono_l : ∀ k, (∀ y0 y1, LeO (spec_l7Bounded.l0 k y0 y1) (spec_l7Bounded.l0 (k + 1) y0 y1)) ∧ (∀ y0 y1 y2, LeO (spec_l7Bounded.l1 k y0 y1 y2) (spec_l7Bounded.l1 (k + 1) y0 y1 y2)) ∧ (∀ y0 y1 y2 y3, LeO (spec_l7Bounded.j2 k y0 y1 y2 y3) (spec_l7Bounded.j2 (k + 1) y0 y1 y2 y3))
 | 0 => ⟨fun _ _ r h => by simp [spec_l7Bounded.l0] at h, fun _ _ _ r h => by simp [spec_l7Bounded.l1] at h, fun _ _ _ _ r h => by simp [spec_l7Bounded.j2] at h⟩
 | k + 1 => by
  obtain ⟨ih0, ih1, ih2⟩ := spec_l7Bounded.mono_l k
  refine ⟨?_, ?_, ?_⟩
  ·intro y0 y1
   unfold spec_l7Bounded.l0
   repeat' first
   | (with_reducible exact ih0 _ _)
   | (with_reducible exact ih1 _ _ _)
   | (with_reducible exact ih2 _ _ _ _)
   | (with_reducible exact spec_l4Rank.mono _ _)
   | (with_reducible exact spec_l7Way.mono _ _ _ _ _ _)
   | (with_reducible exact LeO.refl _)
   | (with_reducible exact LeO.none _)
   | (with_reducible refine LeO.ite ?_ ?_)
   | (with_reducible refine LeO.bind ?_ (fun _ => ?_))
   | exact ih0 _ _
   | exact ih1 _ _ _
   | exact ih2 _ _ _ _
   | exact spec_l4Rank.mono _ _
   | exact spec_l7Way.mono _ _ _ _ _ _
   | exact LeO.none _
   | refine LeO.ite ?_ ?_
   | refine LeO.bind ?_ (fun _ => ?_)
  ·intro y0 y1 y2
   unfold spec_l7Bounded.l1
   repeat' first
   | (with_reducible exact ih0 _ _)
   | (with_reducible exact ih1 _ _ _)
   | (with_reducible exact ih2 _ _ _ _)
   | (with_reducible exact spec_l4Rank.mono _ _)
   | (with_reducible exact spec_l7Way.mono _ _ _ _ _ _)
   | (with_reducible exact LeO.refl _)
   | (with_reducible exact LeO.none _)
   | (with_reducible refine LeO.ite ?_ ?_)
   | (with_reducible refine LeO.bind ?_ (fun _ => ?_))
   | exact ih0 _ _
   | exact ih1 _ _ _
   | exact ih2 _ _ _ _
   | exact spec_l4Rank.mono _ _
   | exact spec_l7Way.mono _ _ _ _ _ _
   | exact LeO.none _
   | refine LeO.ite ?_ ?_
   | refine LeO.bind ?_ (fun _ => ?_)
  intro y0 y1 y2 y3
  unfold spec_l7Bounded.j2
  repeat' first
  | (with_reducible exact ih0 _ _)
  | (with_reducible exact ih1 _ _ _)
  | (with_reducible exact ih2 _ _ _ _)
  | (with_reducible exact spec_l4Rank.mono _ _)
  | (with_reducible exact spec_l7Way.mono _ _ _ _ _ _)
  | (with_reducible exact LeO.refl _)
  | (with_reducible exact LeO.none _)
  | (with_reducible refine LeO.ite ?_ ?_)
  | (with_reducible refine LeO.bind ?_ (fun _ => ?_))
  | exact ih0 _ _
  | exact ih1 _ _ _
  | exact ih2 _ _ _ _
  | exact spec_l4Rank.mono _ _
  | exact spec_l7Way.mono _ _ _ _ _ _
  | exact LeO.none _
  | refine LeO.ite ?_ ?_
  | refine LeO.bind ?_ (fun _ => ?_)
theorem spec_l7Bounded.mono : ∀ a0 k, LeO (spec_l7Bounded.f k a0) (spec_l7Bounded.f (k + 1) a0) := by
 intro a0 k
 obtain ⟨ih0, ih1, ih2⟩ := spec_l7Bounded.mono_l k
 unfold spec_l7Bounded.f
 repeat' first
   | (with_reducible exact ih0 _ _)
   | (with_reducible exact ih1 _ _ _)
   | (with_reducible exact ih2 _ _ _ _)
   | (with_reducible exact spec_l4Rank.mono _ _)
   | (with_reducible exact spec_l7Way.mono _ _ _ _ _ _)
   | (with_reducible exact LeO.refl _)
   | (with_reducible exact LeO.none _)
   | (with_reducible refine LeO.ite ?_ ?_)
   | (with_reducible refine LeO.bind ?_ (fun _ => ?_))
   | exact ih0 _ _
   | exact ih1 _ _ _
   | exact ih2 _ _ _ _
   | exact spec_l4Rank.mono _ _
   | exact spec_l7Way.mono _ _ _ _ _ _
   | exact LeO.none _
   | refine LeO.ite ?_ ?_
   | refine LeO.bind ?_ (fun _ => ?_)
def spec_l7Bounded.T9 : Bool × List (List Nat × List Nat) := (true, [([], []), ([], []), ([0, 1], [0, 1]), ([2], [2]), ([], []), ([], []), ([4, 5], [4, 5]), ([6], [6]), ([3, 7], [3, 7]), ([], []), ([9, 8, 8, 0, 1, 2, 3, 4, 5, 6, 7, 8, 9], [8, 9])])
def spec_l7Bounded.B9 : List Nat := [0, 0, 3, 7, 0, 0, 48, 112, 255, 0, 1023]
theorem spec_l7Bounded.tab9 : rtab .any (opsOf Try.f110 9) = spec_l7Bounded.T9 := by kernel_rfl
theorem spec_l7Bounded.bits9 : waitsOk spec_l7Bounded.T9.2 spec_l7Bounded.B9 = true := by kernel_rfl
set_option maxHeartbeats 8000000 in
set_option maxRecDepth 100000 in
theorem spec_l7Bounded.calls (k : Nat) (A0 : Option Addr) (c0 : Nat) (l0 : List (S23)) (r : Bool) (w : World) (hr0 : Kd.C k23 w A0 l0.length l0) (hc0 : l0.length ≤ c0) (h : spec_l7Bounded.f k l0 = some r) :
  Calls Try.prog 110 #[.slice A0 l0.length c0] w fun e w' => e = .returned (.bool r) ∧ Below w.heap.size w w' := by
 have hu23 := Try.underlying23
 have hu128 := Try.underlying128
 have HR0 := Aside0.mk hr0
 have HC0 := Aside0.mk hc0
 clear hr0 hc0
 have HB := Aside0.mk (Below.refl w.heap.size w)
 have H : ((spec_l4Rank.f k l0).bind fun t601 => (if t601 < 3 then (some false) else (spec_l7Bounded.l0 k l0 0))) = some r := h
 clear h
 obtain ⟨t601, A2, H⟩ := bi H
 by_cases c3 : t601 < 3
 ·rw [if_pos c3] at H
  have c3b0 : decide (t601 < 3) = true := decide_eq_true c3
  clear c3
  obtain rfl := Option.some.inj H
  go_enter Try.func110, Try.ntmps110
  go_wp2_with (first | ((with_reducible refine gate_callee (f := 144) rfl ?_); refine gL 7 Try.func144 #[.slice A0 l0.length c0] ?_; (with_reducible refine (spec_l4Rank.calls k _ _ l0 t601 _ ?side1 ?side2 A2.out).mono ?_); (case side1 => repeat (first | exact HR0.out | (with_reducible refine Kd.C_alloc ?_ _) | (with_reducible refine Kd.C_drewN ?_ _) | (with_reducible refine Kd.C_drew ?_))); (case side2 => exact HC0.out); rintro e w4 ⟨rfl, hb⟩; refine ⟨_, rfl, ?_⟩; replace HB := bt HB hb; (try clear hb); (try clear hb2); (try clear hk); (try clear hi)))
  go_ret
  exact fin HB
 rw [if_neg c3] at H
 have c3b0 : decide (t601 < 3) = false := decide_eq_false c3
 clear c3
 have H' := Aside0.mk H
 clear H
 go_enter Try.func110, Try.ntmps110
 go_wp2_with (first | ((with_reducible refine gate_callee (f := 144) rfl ?_); refine gL 7 Try.func144 #[.slice A0 l0.length c0] ?_; (with_reducible refine (spec_l4Rank.calls k _ _ l0 t601 _ ?side1 ?side2 A2.out).mono ?_); (case side1 => repeat (first | exact HR0.out | (with_reducible refine Kd.C_alloc ?_ _) | (with_reducible refine Kd.C_drewN ?_ _) | (with_reducible refine Kd.C_drew ?_))); (case side2 => exact HC0.out); rintro e w5 ⟨rfl, hb⟩; refine ⟨_, rfl, ?_⟩; replace HB := bt HB hb; (try clear hb); (try clear hb2); (try clear hk); (try clear hi)))
 go_loopg [3] k (fun kq v3 w' => ∃ (x3_1 : Int), v3 = .int .i64 x3_1 ∧ Aside0 (spec_l7Bounded.l0 kq l0 x3_1 = some r) ∧ Aside0 (kq ≤ k) ∧ Aside0 (Below w.heap.size w w'))
 case atStart => exact ⟨(0), re, H', ⟨Nat.le_refl _⟩, ⟨by repeat (first | (with_reducible first | exact HB.out | apply below_alloc | apply pw_below_drewN | apply below_drew1) | exact HB.out)⟩⟩
 case round =>
  clear H'
  obtain ⟨x3_1, rfl, HA, HK1, HB⟩ := hrel
  cases gk with
  | zero => exact absurd HA.out (by simp [spec_l7Bounded.l0])
  | succ k1 =>
   have H := HA.out
   clear HA
   simp only [spec_l7Bounded.l0] at H
   by_cases c6 : x3_1 < (l0.length : Int)
   ·rw [if_pos c6] at H
    have c6b0 : decide (x3_1 < (l0.length : Int)) = true := decide_eq_true c6
    clear c6
    have H' := Aside0.mk H
    clear H
    go_wp2
    go_loopg [4] k1 (fun kq v4 w' => ∃ (x4_2 : Int), v4 = .int .i64 x4_2 ∧ Aside0 (spec_l7Bounded.l1 kq l0 x3_1 x4_2 = some r) ∧ Aside0 (kq ≤ k1) ∧ Aside0 (Below w.heap.size w w'))
    case atStart => exact ⟨(wrap64 (x3_1 + 1)), re, H', ⟨Nat.le_refl _⟩, ⟨by repeat (first | (with_reducible first | exact HB.out | apply below_alloc | apply pw_below_drewN | apply below_drew1) | exact HB.out)⟩⟩
    case round =>
     clear H'
     obtain ⟨x4_2, rfl, HA, HK2, HB⟩ := hrel
     cases gk with
     | zero => exact absurd HA.out (by simp [spec_l7Bounded.l1])
     | succ k2 =>
      have H := HA.out
      clear HA
      simp only [spec_l7Bounded.l1] at H
      by_cases c7 : x4_2 < (l0.length : Int)
      ·rw [if_pos c7] at H
       have c7b0 : decide (x4_2 < (l0.length : Int)) = true := decide_eq_true c7
       clear c7
       by_cases c8 : 0 ≤ x3_1
       ·rw [if_pos c8] at H
        have c8b0 : decide (0 ≤ x3_1) = true := decide_eq_true c8
        clear c8
        by_cases c9 : x3_1 < (l0.length : Int)
        ·rw [if_pos c9] at H
         have c9b0 : decide (x3_1 < (l0.length : Int)) = true := decide_eq_true c9
         clear c9
         by_cases c10 : 0 ≤ x4_2
         ·rw [if_pos c10] at H
          have c10b0 : decide (0 ≤ x4_2) = true := decide_eq_true c10
          clear c10
          obtain ⟨⟨t604, t605, t606⟩, A11, H⟩ := bi H
          dsimp only at H
          have HC12 := Aside0.mk H
          clear H
          try go_wp2
          replace HB := Aside0.mk (below_drew1 HB.out)
          have p602 : 0 ≤ (x3_1 : Int) := dk
          have q602 : x3_1 < (l0.length : Int) := dk
          obtain ⟨ad602, e602, hx602_0, hx602_1, hx602_2, hx602_3⟩ := at_T23 HR0.out x3_1 p602 q602
          have hw602_3 := hx602_3
          have hw602_2 := hx602_2
          have hw602_1 := hx602_1
          have hw602_0 := hx602_0
          cases e602
          replace hx602_0 := hc HB hx602_0
          replace hx602_1 := hc HB hx602_1
          replace hx602_2 := hc HB hx602_2
          replace hx602_3 := hc HB hx602_3
          replace p602 := eq_true p602
          replace q602 := eq_true q602
          have p603 : 0 ≤ (x4_2 : Int) := dk
          have q603 : x4_2 < (l0.length : Int) := dk
          obtain ⟨ad603, e603, hx603_0, hx603_1, hx603_2, hx603_3⟩ := at_T23 HR0.out x4_2 p603 q603
          have hw603_3 := hx603_3
          have hw603_2 := hx603_2
          have hw603_1 := hx603_1
          have hw603_0 := hx603_0
          obtain rfl : ad602 = ad603 := (by injection e603)
          replace hx603_0 := hc HB hx603_0
          replace hx603_1 := hc HB hx603_1
          replace hx603_2 := hc HB hx603_2
          replace hx603_3 := hc HB hx603_3
          replace p603 := eq_true p603
          replace q603 := eq_true q603
          refine start_ (n := 11) (S := fun w' => True) (ds := []) (bl 11 0) (by kernel_rfl) rfl rfl trivial (fun hHeld => ?_); refine with_tabW spec_l7Bounded.tab9 spec_l7Bounded.bits9 (fun HT_ HW_ => ?_)
          generalize wr.drew = w13 at HB hx602_0 hx602_1 hx602_2 hx602_3 hx603_0 hx603_1 hx603_2 hx603_3 hHeld ⊢
          refine pS 0 23 1 ?_
          refine pS 1 24 3 ?_
          refine pS 4 27 19 ?_
          refine pS 5 28 51 ?_
          refine inv_at [2, 3, 6, 7, 8, 9, 10] (fun a0_ b a w' => ∃ (g2 : Nat) (m9_ : Value), a = putSel a0_ b [(2, 25, .pointer (some (ad602.add ((x3_1).toNat * 4)))), (3, 26, .agg #[.int .i64 ((rd_T23 l0 x3_1).f0), .int .i64 ((rd_T23 l0 x3_1).f1), .int .i64 ((rd_T23 l0 x3_1).f2), .int .i64 ((rd_T23 l0 x3_1).f3)]), (6, 29, .pointer (some (ad602.add ((x4_2).toNat * 4)))), (7, 30, .agg #[.int .i64 ((rd_T23 l0 x4_2).f0), .int .i64 ((rd_T23 l0 x4_2).f1), .int .i64 ((rd_T23 l0 x4_2).f2), .int .i64 ((rd_T23 l0 x4_2).f3)]), (8, 31, .agg #[.int .i64 t604, .int .i64 t605, .int .i64 t606]), (9, 5, m9_)] ∧ (Below w.heap.size w w') ∧ (b 9 = true → b 10 = false → w'.heap[g2]? = some (.cells #[.int .i64 0, .int .i64 0, .int .i64 0] 128 (0, 0))) ∧ (b 9 = true → w.heap.size ≤ g2) ∧ (b 9 = true → w.heap.size ≤ g2) ∧ (b 10 = true → w'.heap[g2]? = some (.cells #[.int .i64 t604, .int .i64 t605, .int .i64 t606] 128 (0, 0))) ∧ (b 9 = true → (m9_ : Value) = .pointer (some ⟨g2, 0, none⟩))) HT_.out HW_.out (by kernel_rfl) (by kernel_rfl) ?_ ?_ ?_
          ·exact ⟨0, .bool false, by simp only [putSel, Bool.false_eq_true, if_false], HB.out, fun h_ => absurd h_ (by decide), fun h_ => absurd h_ (by decide), fun h_ => absurd h_ (by decide), fun h_ => absurd h_ (by decide), fun h_ => absurd h_ (by decide)⟩
          ·skip
           clear HB
           refine steps_cons ?_ ?_
           ·rintro b a w' ⟨g2, m9_, ha, Q_HB, qK2, qW2, qE2, qK2_e10, Q_X9_⟩ hb_ hon hoff
            refine ⟨_, rfl, fun K hK => ?_⟩
            have e23 : a.tmps[23]? = some (.slice (some ad602) l0.length c0) := by rw [ha]; exact (putSel_off rfl).trans rfl
            have e24 : a.tmps[24]? = some (.int .i64 x3_1) := by rw [ha]; exact (putSel_off rfl).trans rfl
            replace ha := Aside0.mk ha
            have HB := Aside0.mk Q_HB
            have hs0_ : w'.cell? (ad602.add ((x3_1).toNat * 4)) = some (.int .i64 ((rd_T23 l0 x3_1).f0)) := ((HB.out.cell (World.block_lt_of_cell? w _ hw602_0)).trans hw602_0)
            have hs1_ : w'.cell? ⟨(ad602.add ((x3_1).toNat * 4)).block, (ad602.add ((x3_1).toNat * 4)).off + 1, none⟩ = some (.int .i64 ((rd_T23 l0 x3_1).f1)) := ((HB.out.cell (World.block_lt_of_cell? w _ hw602_1)).trans hw602_1)
            have hs2_ : w'.cell? ⟨(ad602.add ((x3_1).toNat * 4)).block, (ad602.add ((x3_1).toNat * 4)).off + 2, none⟩ = some (.int .i64 ((rd_T23 l0 x3_1).f2)) := ((HB.out.cell (World.block_lt_of_cell? w _ hw602_2)).trans hw602_2)
            have hs3_ : w'.cell? ⟨(ad602.add ((x3_1).toNat * 4)).block, (ad602.add ((x3_1).toNat * 4)).off + 3, none⟩ = some (.int .i64 ((rd_T23 l0 x3_1).f3)) := ((HB.out.cell (World.block_lt_of_cell? w _ hw602_3)).trans hw602_3)
            refine value_ (w1 := w') (v := .pointer (some (ad602.add ((x3_1).toNat * 4)))) (by rfl) rfl ?_ ?_
            ·go_simp
             (try simp only [i64_w])
             try rfl
            refine hK.out _ _ ⟨g2, m9_, (by rw [ha.out]; exact putSel_upk 0 hb_ rfl rfl rfl), Q_HB, qK2, qW2, qE2, fun h0_ => absurd ((hoff 10 (by kernel_rfl)).symm.trans h0_) (by decide), Q_X9_⟩
           refine steps_cons ?_ ?_
           ·rintro b a w' ⟨g2, m9_, ha, Q_HB, qK2, qW2, qE2, qK2_e10, Q_X9_⟩ hb_ hon hoff
            refine ⟨_, rfl, fun K hK => ?_⟩
            have e25 : a.tmps[25]? = some (.pointer (some (ad602.add ((x3_1).toNat * 4)))) := by rw [ha]; exact putSel_on (e := (2, 25, .pointer (some (ad602.add ((x3_1).toNat * 4))))) 0 rfl rfl (hon 2 (by kernel_rfl)) rfl
            replace ha := Aside0.mk ha
            have HB := Aside0.mk Q_HB
            have hs0_ : w'.cell? (ad602.add ((x3_1).toNat * 4)) = some (.int .i64 ((rd_T23 l0 x3_1).f0)) := ((HB.out.cell (World.block_lt_of_cell? w _ hw602_0)).trans hw602_0)
            have hs1_ : w'.cell? ⟨(ad602.add ((x3_1).toNat * 4)).block, (ad602.add ((x3_1).toNat * 4)).off + 1, none⟩ = some (.int .i64 ((rd_T23 l0 x3_1).f1)) := ((HB.out.cell (World.block_lt_of_cell? w _ hw602_1)).trans hw602_1)
            have hs2_ : w'.cell? ⟨(ad602.add ((x3_1).toNat * 4)).block, (ad602.add ((x3_1).toNat * 4)).off + 2, none⟩ = some (.int .i64 ((rd_T23 l0 x3_1).f2)) := ((HB.out.cell (World.block_lt_of_cell? w _ hw602_2)).trans hw602_2)
            have hs3_ : w'.cell? ⟨(ad602.add ((x3_1).toNat * 4)).block, (ad602.add ((x3_1).toNat * 4)).off + 3, none⟩ = some (.int .i64 ((rd_T23 l0 x3_1).f3)) := ((HB.out.cell (World.block_lt_of_cell? w _ hw602_3)).trans hw602_3)
            refine value_ (w1 := w') (v := .agg #[.int .i64 ((rd_T23 l0 x3_1).f0), .int .i64 ((rd_T23 l0 x3_1).f1), .int .i64 ((rd_T23 l0 x3_1).f2), .int .i64 ((rd_T23 l0 x3_1).f3)]) (by rfl) rfl ?_ ?_
            ·go_simp
             (try simp only [i64_w])
             try rfl
            refine hK.out _ _ ⟨g2, m9_, (by rw [ha.out]; exact putSel_upk 1 hb_ rfl rfl rfl), Q_HB, qK2, qW2, qE2, fun h0_ => absurd ((hoff 10 (by kernel_rfl)).symm.trans h0_) (by decide), Q_X9_⟩
           refine steps_cons ?_ ?_
           ·rintro b a w' ⟨g2, m9_, ha, Q_HB, qK2, qW2, qE2, qK2_e10, Q_X9_⟩ hb_ hon hoff
            refine ⟨_, rfl, fun K hK => ?_⟩
            have e27 : a.tmps[27]? = some (.slice (some ad602) l0.length c0) := by rw [ha]; exact (putSel_off rfl).trans rfl
            have e28 : a.tmps[28]? = some (.int .i64 x4_2) := by rw [ha]; exact (putSel_off rfl).trans rfl
            replace ha := Aside0.mk ha
            have HB := Aside0.mk Q_HB
            have hs4_ : w'.cell? (ad602.add ((x4_2).toNat * 4)) = some (.int .i64 ((rd_T23 l0 x4_2).f0)) := ((HB.out.cell (World.block_lt_of_cell? w _ hw603_0)).trans hw603_0)
            have hs5_ : w'.cell? ⟨(ad602.add ((x4_2).toNat * 4)).block, (ad602.add ((x4_2).toNat * 4)).off + 1, none⟩ = some (.int .i64 ((rd_T23 l0 x4_2).f1)) := ((HB.out.cell (World.block_lt_of_cell? w _ hw603_1)).trans hw603_1)
            have hs6_ : w'.cell? ⟨(ad602.add ((x4_2).toNat * 4)).block, (ad602.add ((x4_2).toNat * 4)).off + 2, none⟩ = some (.int .i64 ((rd_T23 l0 x4_2).f2)) := ((HB.out.cell (World.block_lt_of_cell? w _ hw603_2)).trans hw603_2)
            have hs7_ : w'.cell? ⟨(ad602.add ((x4_2).toNat * 4)).block, (ad602.add ((x4_2).toNat * 4)).off + 3, none⟩ = some (.int .i64 ((rd_T23 l0 x4_2).f3)) := ((HB.out.cell (World.block_lt_of_cell? w _ hw603_3)).trans hw603_3)
            refine value_ (w1 := w') (v := .pointer (some (ad602.add ((x4_2).toNat * 4)))) (by rfl) rfl ?_ ?_
            ·go_simp
             (try simp only [i64_w])
             try rfl
            refine hK.out _ _ ⟨g2, m9_, (by rw [ha.out]; exact putSel_upk 2 hb_ rfl rfl rfl), Q_HB, qK2, qW2, qE2, fun h0_ => absurd ((hoff 10 (by kernel_rfl)).symm.trans h0_) (by decide), Q_X9_⟩
           refine steps_cons ?_ ?_
           ·rintro b a w' ⟨g2, m9_, ha, Q_HB, qK2, qW2, qE2, qK2_e10, Q_X9_⟩ hb_ hon hoff
            refine ⟨_, rfl, fun K hK => ?_⟩
            have e29 : a.tmps[29]? = some (.pointer (some (ad602.add ((x4_2).toNat * 4)))) := by rw [ha]; exact putSel_on (e := (6, 29, .pointer (some (ad602.add ((x4_2).toNat * 4))))) 2 rfl rfl (hon 6 (by kernel_rfl)) rfl
            replace ha := Aside0.mk ha
            have HB := Aside0.mk Q_HB
            have hs4_ : w'.cell? (ad602.add ((x4_2).toNat * 4)) = some (.int .i64 ((rd_T23 l0 x4_2).f0)) := ((HB.out.cell (World.block_lt_of_cell? w _ hw603_0)).trans hw603_0)
            have hs5_ : w'.cell? ⟨(ad602.add ((x4_2).toNat * 4)).block, (ad602.add ((x4_2).toNat * 4)).off + 1, none⟩ = some (.int .i64 ((rd_T23 l0 x4_2).f1)) := ((HB.out.cell (World.block_lt_of_cell? w _ hw603_1)).trans hw603_1)
            have hs6_ : w'.cell? ⟨(ad602.add ((x4_2).toNat * 4)).block, (ad602.add ((x4_2).toNat * 4)).off + 2, none⟩ = some (.int .i64 ((rd_T23 l0 x4_2).f2)) := ((HB.out.cell (World.block_lt_of_cell? w _ hw603_2)).trans hw603_2)
            have hs7_ : w'.cell? ⟨(ad602.add ((x4_2).toNat * 4)).block, (ad602.add ((x4_2).toNat * 4)).off + 3, none⟩ = some (.int .i64 ((rd_T23 l0 x4_2).f3)) := ((HB.out.cell (World.block_lt_of_cell? w _ hw603_3)).trans hw603_3)
            refine value_ (w1 := w') (v := .agg #[.int .i64 ((rd_T23 l0 x4_2).f0), .int .i64 ((rd_T23 l0 x4_2).f1), .int .i64 ((rd_T23 l0 x4_2).f2), .int .i64 ((rd_T23 l0 x4_2).f3)]) (by rfl) rfl ?_ ?_
            ·go_simp
             (try simp only [i64_w])
             try rfl
            refine hK.out _ _ ⟨g2, m9_, (by rw [ha.out]; exact putSel_upk 3 hb_ rfl rfl rfl), Q_HB, qK2, qW2, qE2, fun h0_ => absurd ((hoff 10 (by kernel_rfl)).symm.trans h0_) (by decide), Q_X9_⟩
           refine steps_cons ?_ ?_
           ·rintro b a w' ⟨g2, m9_, ha, Q_HB, qK2, qW2, qE2, qK2_e10, Q_X9_⟩ hb_ hon hoff
            refine ⟨_, rfl, fun K hK => ?_⟩
            have e26 : a.tmps[26]? = some (.agg #[.int .i64 ((rd_T23 l0 x3_1).f0), .int .i64 ((rd_T23 l0 x3_1).f1), .int .i64 ((rd_T23 l0 x3_1).f2), .int .i64 ((rd_T23 l0 x3_1).f3)]) := by rw [ha]; exact putSel_on (e := (3, 26, .agg #[.int .i64 ((rd_T23 l0 x3_1).f0), .int .i64 ((rd_T23 l0 x3_1).f1), .int .i64 ((rd_T23 l0 x3_1).f2), .int .i64 ((rd_T23 l0 x3_1).f3)])) 1 rfl rfl (hon 3 (by kernel_rfl)) rfl
            have e30 : a.tmps[30]? = some (.agg #[.int .i64 ((rd_T23 l0 x4_2).f0), .int .i64 ((rd_T23 l0 x4_2).f1), .int .i64 ((rd_T23 l0 x4_2).f2), .int .i64 ((rd_T23 l0 x4_2).f3)]) := by rw [ha]; exact putSel_on (e := (7, 30, .agg #[.int .i64 ((rd_T23 l0 x4_2).f0), .int .i64 ((rd_T23 l0 x4_2).f1), .int .i64 ((rd_T23 l0 x4_2).f2), .int .i64 ((rd_T23 l0 x4_2).f3)])) 3 rfl rfl (hon 7 (by kernel_rfl)) rfl
            replace ha := Aside0.mk ha
            have HB := Aside0.mk Q_HB
            refine goes_ Try.func145 (by kernel_rfl) rfl #[.agg #[.int .i64 ((rd_T23 l0 x3_1).f0), .int .i64 ((rd_T23 l0 x3_1).f1), .int .i64 ((rd_T23 l0 x3_1).f2), .int .i64 ((rd_T23 l0 x3_1).f3)], .agg #[.int .i64 ((rd_T23 l0 x4_2).f0), .int .i64 ((rd_T23 l0 x4_2).f1), .int .i64 ((rd_T23 l0 x4_2).f2), .int .i64 ((rd_T23 l0 x4_2).f3)]] (by rfl) rfl rfl (by first | (simp only [List.map_toArray, List.map_cons, List.map_nil, Act.eval, Array.getD_eq_getD_getElem?, Option.getD_some, e26, e30]; done) | (simp only [List.map_toArray, List.map_cons, List.map_nil, Act.eval, Array.getD_eq_getD_getElem?, Option.getD_some, e26, e30]; rfl)) ?_
            with_reducible refine (spec_l4Cross.calls ((rd_T23 l0 x3_1).f0) ((rd_T23 l0 x3_1).f1) ((rd_T23 l0 x3_1).f2) ((rd_T23 l0 x3_1).f3) ((rd_T23 l0 x4_2).f0) ((rd_T23 l0 x4_2).f1) ((rd_T23 l0 x4_2).f2) ((rd_T23 l0 x4_2).f3) t604 t605 t606 _ A11.out).mono ?_
            rintro e w14 ⟨rfl, hb⟩
            refine ⟨_, rfl, ?_⟩
            have n0_ := bt HB hb
            have zK2 := fun (h0_ : b 9 = true) (h1_ : b 10 = false) => (show w14.heap[g2]? = some (.cells #[.int .i64 0, .int .i64 0, .int .i64 0] 128 (0, 0)) from by first | exact (blk_below (g := g2) (o := .cells #[.int .i64 0, .int .i64 0, .int .i64 0] 128 (0, 0)) (by (with_reducible repeat (first | refine blk_drewN ?_ _ | refine blk_drew ?_ | refine blk_alloc ?_ _)); exact (qK2 h0_ h1_)) hb))
            clear HB
            have HB := n0_
            clear n0_
            (try clear hb)
            (try clear hb2)
            (try clear hk)
            (try clear hi)
            refine hK.out _ _ ⟨g2, m9_, (by rw [ha.out]; exact putSel_upk 4 hb_ rfl rfl rfl), (hbx HB), zK2, qW2, qE2, fun h0_ => absurd ((hoff 10 (by kernel_rfl)).symm.trans h0_) (by decide), Q_X9_⟩
           refine steps_cons ?_ ?_
           ·rintro b a w' ⟨g2, m9_, ha, Q_HB, qK2, qW2, qE2, qK2_e10, Q_X9_⟩ hb_ hon hoff
            refine ⟨_, rfl, fun K hK => ?_⟩
            replace ha := Aside0.mk ha
            have HB := Aside0.mk Q_HB
            refine box_step ?hg (N := 5) ?hd (cs := #[.int .i64 0, .int .i64 0, .int .i64 0]) (t := 128) ?hr ?_; (case hd => rfl); (case hg => rfl); (case hr => first | (go_simp; done) | (go_simp; rfl))
            intro g2 hg w14 hbox hb
            have bK2 := Aside0.mk (hbox)
            have bW2 := gx hg HB
            have bE2 := gx hg HB
            replace HB := bt HB hb
            clear hb hbox hg
            refine hK.out _ _ ⟨g2, (.pointer (some ⟨g2, 0, none⟩)), (by rw [ha.out]; exact putSel_upk 5 hb_ rfl rfl rfl), (hbx HB), fun _ _ => (kbx bK2), fun _ => bW2.out, fun _ => bE2.out, fun h0_ => absurd ((hoff 10 (by kernel_rfl)).symm.trans h0_) (by decide), fun _ => rfl⟩
           refine steps_cons ?_ ?_
           ·rintro b a w' ⟨g2, m9_, ha, Q_HB, qK2, qW2, qE2, qK2_e10, Q_X9_⟩ hb_ hon hoff
            refine ⟨_, rfl, fun K hK => ?_⟩
            have e5 : a.tmps[5]? = some (m9_) := by rw [ha]; exact putSel_on (e := (9, 5, m9_)) 5 rfl rfl (hon 9 (by kernel_rfl)) rfl
            rw [Q_X9_ (hon 9 (by kernel_rfl))] at e5
            have e31 : a.tmps[31]? = some (.agg #[.int .i64 t604, .int .i64 t605, .int .i64 t606]) := by rw [ha]; exact putSel_on (e := (8, 31, .agg #[.int .i64 t604, .int .i64 t605, .int .i64 t606])) 4 rfl rfl (hon 8 (by kernel_rfl)) rfl
            replace ha := Aside0.mk ha
            have HB := Aside0.mk Q_HB
            have bK2 := Aside0.mk (qK2 (hon 9 (by kernel_rfl)) hb_)
            have bW2 := Aside0.mk (qW2 (hon 9 (by kernel_rfl)))
            have bE2 := Aside0.mk (qE2 (hon 9 (by kernel_rfl)))
            have hs17 : w'.cell? ⟨g2, 0, none⟩ = some (.int .i64 0) := (blk_cell bK2.out 0).trans rfl
            have hfs17 := blk_frozen bK2.out 0
            have hs18 : w'.cell? ⟨g2, 1, none⟩ = some (.int .i64 0) := (blk_cell bK2.out 1).trans rfl
            have hfs18 := blk_frozen bK2.out 1
            have hs19 : w'.cell? ⟨g2, 2, none⟩ = some (.int .i64 0) := (blk_cell bK2.out 2).trans rfl
            have hfs19 := blk_frozen bK2.out 2
            refine skip_ (w1 := ?_) (by rfl) rfl ?_ ?_
            rotate_left
            ·go_simp
             rfl
            refine hK.out _ _ ⟨g2, m9_, (by rw [ha.out]; exact putSel_none (v := undef) rfl), (hbx HB), fun _ h1_ => absurd ((up_self b 10).symm.trans h1_) (by decide), fun _ => bW2.out, fun _ => bE2.out, fun _ => (by (with_reducible repeat (first | refine blk_drewN ?_ _ | refine blk_drew ?_ | refine blk_alloc ?_ _)); refine blk_put (cs := #[.int .i64 t604, .int .i64 t605, .int .i64 0]) ?_ 2 _ rfl; (with_reducible repeat (first | refine blk_drewN ?_ _ | refine blk_drew ?_ | refine blk_alloc ?_ _)); refine blk_put (cs := #[.int .i64 t604, .int .i64 0, .int .i64 0]) ?_ 1 _ rfl; (with_reducible repeat (first | refine blk_drewN ?_ _ | refine blk_drew ?_ | refine blk_alloc ?_ _)); refine blk_put (cs := #[.int .i64 0, .int .i64 0, .int .i64 0]) ?_ 0 _ rfl; (with_reducible repeat (first | refine blk_drewN ?_ _ | refine blk_drew ?_ | refine blk_alloc ?_ _)); exact bK2.out), Q_X9_⟩
           exact steps_nil
          rintro b a w19 hall ⟨g2, m9_, ha, Q_HB, qK2, qW2, qE2, qK2_e10, Q_X9_⟩
          clear HB
          have hb2_ := hall 2 (by kernel_rfl)
          have hb3_ := hall 3 (by kernel_rfl)
          have hb6_ := hall 6 (by kernel_rfl)
          have hb7_ := hall 7 (by kernel_rfl)
          have hb8_ := hall 8 (by kernel_rfl)
          have hb9_ := hall 9 (by kernel_rfl)
          have hb10_ := hall 10 (by kernel_rfl)
          subst ha
          obtain rfl := Q_X9_ hb9_
          simp only [putSel, hb2_, hb3_, hb6_, hb7_, hb8_, hb9_, hb10_, if_true, Act.put, List.setIfInBounds_toArray, List.set_cons_zero, List.set_cons_succ]
          have HB := Aside0.mk Q_HB
          clear Q_HB
          clear qK2
          have bW2 := Aside0.mk (qW2 hb9_)
          clear qW2
          have bE2 := Aside0.mk (qE2 hb9_)
          clear qE2
          have bK2 := Aside0.mk (qK2_e10 hb10_)
          clear qK2_e10
          clear hall hb2_ hb3_ hb6_ hb7_ hb8_ hb9_ hb10_
          go_upto_region 10 with (fail)
          go_cut [44] (fun v44 wc => ∃ (kq : Nat) (x44_11 : Bool), v44 = .bool x44_11 ∧ Aside0 (spec_l7Bounded.j2 kq l0 x3_1 x4_2 x44_11 = some r) ∧ Aside0 (kq ≤ k2) ∧ Aside0 (wc.heap[g2]? = some (.cells #[.int .i64 t604, .int .i64 t605, .int .i64 t606] 128 (0, 0))) ∧ Aside0 (Below w.heap.size w wc))
          case first =>
           have H := HC12.out
           clear HC12
           by_cases c20 : (!(t604 == 0) || (!(t605 == 0) || (!(t606 == 0)))) = true
           ·rw [if_pos c20] at H
            have c20b0 : (!(t604 == 0) || (!(t605 == 0) || (!(t606 == 0)))) = true := c20
            clear c20
            (first | rw [c20b0] | (simp only [i64_w, i32_w]; rw [c20b0]) | skip)
            obtain ⟨t608, A21, H⟩ := bi H
            by_cases c22 : t608 = true
            ·subst c22
             have H1 : (spec_l7Bounded.j2 k2 l0 x3_1 x4_2 true) = some r := by rw [if_pos rfl] at H; exact H
             clear H
             have H := H1
             clear H1
             have H' := Aside0.mk H
             clear H
             obtain ⟨hcz23_0, hcz23_1, hcz23_2, hfz23_0, hfz23_1, hfz23_2⟩ := cz3 bK2
             go_wp2_with (first | (go_at_call 146; (with_reducible refine (spec_l7Way.calls k2 _ _ l0 t604 t605 t606 1 true _ ?side1 ?side2 A21.out).mono ?_); (case side1 => repeat (first | exact (Kd.C_below HR0.out HB.out) | (with_reducible refine Kd.C_alloc ?_ _) | (with_reducible refine Kd.C_drewN ?_ _) | (with_reducible refine Kd.C_drew ?_))); (case side2 => exact HC0.out); rintro e w24 ⟨rfl, hb⟩; replace bK2 := kb bK2 hb; replace HB := bt HB hb; (try clear hb); (try clear hb2); (try clear hk); (try clear hi)))
             go_meet
             case rel => exact ⟨_, (true), re, H', ⟨by have := HK1.out; have := HK2.out; first | omega | exact Nat.le_refl _⟩, ⟨by (with_reducible repeat (first | refine blk_drewN ?_ _ | refine blk_drew ?_ | refine blk_alloc ?_ _)); exact bK2.out⟩, ⟨by repeat (first | (with_reducible first | exact HB.out | apply below_alloc | apply pw_below_drewN | apply below_drew1 | refine below_set ?_ bE2.out) | exact HB.out)⟩⟩
            replace c22 := Bool.eq_false_iff.mpr c22
            subst c22
            have H1 : ((spec_l7Way.f k2 l0 t604 t605 t606 (-1)).bind fun t609 => (spec_l7Bounded.j2 k2 l0 x3_1 x4_2 t609)) = some r := by rw [if_neg (show ¬ (false = true) by decide)] at H; exact H
            clear H
            have H := H1
            clear H1
            obtain ⟨t609, A25, H⟩ := bi H
            have H' := Aside0.mk H
            clear H
            obtain ⟨hcz26_0, hcz26_1, hcz26_2, hfz26_0, hfz26_1, hfz26_2⟩ := cz3 bK2
            go_wp2_with (first | (go_at_call 146; (with_reducible refine (spec_l7Way.calls k2 _ _ l0 t604 t605 t606 1 false _ ?side1 ?side2 A21.out).mono ?_); (case side1 => repeat (first | exact (Kd.C_below HR0.out HB.out) | (with_reducible refine Kd.C_alloc ?_ _) | (with_reducible refine Kd.C_drewN ?_ _) | (with_reducible refine Kd.C_drew ?_))); (case side2 => exact HC0.out); rintro e w27 ⟨rfl, hb⟩; replace bK2 := kb bK2 hb; replace HB := bt HB hb; (try clear hb); (try clear hb2); (try clear hk); (try clear hi); obtain ⟨hcz28_0, hcz28_1, hcz28_2, hfz28_0, hfz28_1, hfz28_2⟩ := cz3 bK2) | (go_at_call 146; (with_reducible refine (spec_l7Way.calls k2 _ _ l0 t604 t605 t606 (-1) t609 _ ?side1 ?side2 A25.out).mono ?_); (case side1 => repeat (first | exact (Kd.C_below HR0.out HB.out) | (with_reducible refine Kd.C_alloc ?_ _) | (with_reducible refine Kd.C_drewN ?_ _) | (with_reducible refine Kd.C_drew ?_))); (case side2 => exact HC0.out); rintro e w29 ⟨rfl, hb⟩; replace bK2 := kb bK2 hb; replace HB := bt HB hb; (try clear hb); (try clear hb2); (try clear hk); (try clear hi)))
            go_meet
            case rel => exact ⟨_, (t609), re, H', ⟨by have := HK1.out; have := HK2.out; first | omega | exact Nat.le_refl _⟩, ⟨by (with_reducible repeat (first | refine blk_drewN ?_ _ | refine blk_drew ?_ | refine blk_alloc ?_ _)); exact bK2.out⟩, ⟨by repeat (first | (with_reducible first | exact HB.out | apply below_alloc | apply pw_below_drewN | apply below_drew1 | refine below_set ?_ bE2.out) | exact HB.out)⟩⟩
           rw [if_neg c20] at H
           have c20b0 : (!(t604 == 0) || (!(t605 == 0) || (!(t606 == 0)))) = false := by simpa using c20
           clear c20
           (first | rw [c20b0] | (simp only [i64_w, i32_w]; rw [c20b0]) | skip)
           have H' := Aside0.mk H
           clear H
           obtain ⟨hcz30_0, hcz30_1, hcz30_2, hfz30_0, hfz30_1, hfz30_2⟩ := cz3 bK2
           go_wp2
           go_meet
           case rel => exact ⟨_, (false), re, H', ⟨by have := HK1.out; have := HK2.out; first | omega | exact Nat.le_refl _⟩, ⟨by (with_reducible repeat (first | refine blk_drewN ?_ _ | refine blk_drew ?_ | refine blk_alloc ?_ _)); exact bK2.out⟩, ⟨by repeat (first | (with_reducible first | exact HB.out | apply below_alloc | apply pw_below_drewN | apply below_drew1 | refine below_set ?_ bE2.out) | exact HB.out)⟩⟩
          case rest =>
           clear HC12
           obtain ⟨kq, x44_11, rfl, HA, HJ11, bK2, HB⟩ := hcut
           cases kq with
           | zero => exact absurd HA.out (by simp [spec_l7Bounded.j2])
           | succ kj11 =>
            have H := HA.out
            clear HA
            simp only [spec_l7Bounded.j2] at H
            by_cases c31 : x44_11 = true
            ·subst c31
             have H1 : (some false) = some r := by rw [if_pos rfl] at H; exact H
             clear H
             have H := H1
             clear H1
             obtain rfl := Option.some.inj H
             go_wp2
             go_ret
             exact fin HB
            replace c31 := Bool.eq_false_iff.mpr c31
            subst c31
            have H1 : (spec_l7Bounded.l1 kj11 l0 x3_1 (wrap64 (x4_2 + 1))) = some r := by rw [if_neg (show ¬ (false = true) by decide)] at H; exact H
            clear H
            have H := H1
            clear H1
            have H' := Aside0.mk H
            clear H
            go_wp2
            go_roundg kj11
            case measure => have := HK1.out; have := HK2.out; have := HJ11.out; omega
            case rel => exact ⟨(wrap64 (x4_2 + 1)), re, H', ⟨by have := HK1.out; have := HK2.out; have := HJ11.out; omega⟩, ⟨by repeat (first | (with_reducible first | exact HB.out | apply below_alloc | apply pw_below_drewN | apply below_drew1 | refine below_set ?_ bE2.out) | exact HB.out)⟩⟩
         rw [if_neg c10] at H
         exact absurd H (by simp)
        rw [if_neg c9] at H
        exact absurd H (by simp)
       rw [if_neg c8] at H
       exact absurd H (by simp)
      rw [if_neg c7] at H
      have c7b0 : decide (x4_2 < (l0.length : Int)) = false := decide_eq_false c7
      clear c7
      have H' := Aside0.mk H
      clear H
      go_wp2
      go_roundg k2
      case measure => have := HK1.out; have := HK2.out; omega
      case rel => exact ⟨(wrap64 (x3_1 + 1)), re, H', ⟨by have := HK1.out; have := HK2.out; omega⟩, ⟨by repeat (first | (with_reducible first | exact HB.out | apply below_alloc | apply pw_below_drewN | apply below_drew1) | exact HB.out)⟩⟩
   rw [if_neg c6] at H
   have c6b0 : decide (x3_1 < (l0.length : Int)) = false := decide_eq_false c6
   clear c6
   obtain rfl := Option.some.inj H
   go_wp2
   go_ret
   exact fin HB

/-! ### spec_Bounded: function 56 -/
def spec_Bounded.f (k : Nat) (l0 : List (S23)) : Option (Bool) := (spec_Open.f k l0).bind fun t610 => (if t610 = true then ((spec_l7Bounded.f k l0).bind fun t611 => (some t611)) else (some false))
theorem spec_Bounded.mono : ∀ a0 k, LeO (spec_Bounded.f k a0) (spec_Bounded.f (k + 1) a0) := by
 intro a0 k
 unfold spec_Bounded.f
 repeat' first
   | (with_reducible exact spec_Open.mono _ _)
   | (with_reducible exact spec_l7Bounded.mono _ _)
   | (with_reducible exact LeO.refl _)
   | (with_reducible exact LeO.none _)
   | (with_reducible refine LeO.ite ?_ ?_)
   | (with_reducible refine LeO.bind ?_ (fun _ => ?_))
   | exact spec_Open.mono _ _
   | exact spec_l7Bounded.mono _ _
   | exact LeO.none _
   | refine LeO.ite ?_ ?_
   | refine LeO.bind ?_ (fun _ => ?_)
set_option maxHeartbeats 8000000 in
set_option maxRecDepth 100000 in
theorem spec_Bounded.calls (k : Nat) (A0 : Option Addr) (c0 : Nat) (l0 : List (S23)) (r : Bool) (w : World) (hr0 : Kd.C k23 w A0 l0.length l0) (hc0 : l0.length ≤ c0) (h : spec_Bounded.f k l0 = some r) :
  Calls Try.prog 56 #[.slice A0 l0.length c0] w fun e w' => e = .returned (.bool r) ∧ Below w.heap.size w w' := by
 have HR0 := Aside0.mk hr0
 have HC0 := Aside0.mk hc0
 clear hr0 hc0
 have HB := Aside0.mk (Below.refl w.heap.size w)
 have H : ((spec_Open.f k l0).bind fun t610 => (if t610 = true then ((spec_l7Bounded.f k l0).bind fun t611 => (some t611)) else (some false))) = some r := h
 clear h
 obtain ⟨t610, A2, H⟩ := bi H
 by_cases c3 : t610 = true
 ·subst c3
  have H1 : ((spec_l7Bounded.f k l0).bind fun t611 => (some t611)) = some r := by rw [if_pos rfl] at H; exact H
  clear H
  have H := H1
  clear H1
  obtain ⟨t611, A4, H⟩ := bi H
  obtain rfl := Option.some.inj H
  go_enter Try.func56, Try.ntmps56
  go_wp2_with (first | ((with_reducible refine gate_callee (f := 39) rfl ?_); refine gL 4 Try.func39 #[.slice A0 l0.length c0] ?_; (with_reducible refine (spec_Open.calls k _ _ l0 true _ ?side1 ?side2 A2.out).mono ?_); (case side1 => repeat (first | exact HR0.out | (with_reducible refine Kd.C_alloc ?_ _) | (with_reducible refine Kd.C_drewN ?_ _) | (with_reducible refine Kd.C_drew ?_))); (case side2 => exact HC0.out); rintro e w5 ⟨rfl, hb⟩; refine ⟨_, rfl, ?_⟩; replace HB := bt HB hb; (try clear hb); (try clear hb2); (try clear hk); (try clear hi)) | (go_at_call 110; (with_reducible refine (spec_l7Bounded.calls k _ _ l0 t611 _ ?side1 ?side2 A4.out).mono ?_); (case side1 => repeat (first | exact (Kd.C_below HR0.out HB.out) | (with_reducible refine Kd.C_alloc ?_ _) | (with_reducible refine Kd.C_drewN ?_ _) | (with_reducible refine Kd.C_drew ?_))); (case side2 => exact HC0.out); rintro e w6 ⟨rfl, hb⟩; replace HB := bt HB hb; (try clear hb); (try clear hb2); (try clear hk); (try clear hi)))
  go_ret
  exact fin HB
 replace c3 := Bool.eq_false_iff.mpr c3
 subst c3
 have H1 : (some false) = some r := by rw [if_neg (show ¬ (false = true) by decide)] at H; exact H
 clear H
 have H := H1
 clear H1
 obtain rfl := Option.some.inj H
 go_enter Try.func56, Try.ntmps56
 go_wp2_with (first | ((with_reducible refine gate_callee (f := 39) rfl ?_); refine gL 4 Try.func39 #[.slice A0 l0.length c0] ?_; (with_reducible refine (spec_Open.calls k _ _ l0 false _ ?side1 ?side2 A2.out).mono ?_); (case side1 => repeat (first | exact HR0.out | (with_reducible refine Kd.C_alloc ?_ _) | (with_reducible refine Kd.C_drewN ?_ _) | (with_reducible refine Kd.C_drew ?_))); (case side2 => exact HC0.out); rintro e w7 ⟨rfl, hb⟩; refine ⟨_, rfl, ?_⟩; replace HB := bt HB hb; (try clear hb); (try clear hb2); (try clear hk); (try clear hi)))
 go_ret
 exact fin HB

end Go.Proofs.Ytndedincanmaeaa.Print
