-- Printed by a program of the session (mkprinter.py, over the kit's print); Lean checks it.
import Derived.Test.YtndedincanmaeaaCp
import Derived.Test.YtndedincanmaeaaPrint0
import Derived.Test.YtndedincanmaeaaPrint1
import Derived.Test.YtndedincanmaeaaPrint2
import Derived.Test.YtndedincanmaeaaPrint5
import Derived.Test.YtndedincanmaeaaPrint6
namespace Go.Proofs.Ytndedincanmaeaa.Print
open Go.RowKit Go.Proofs.YtndedincanmaeaaW.PrintWords Go.Proofs.YtndedincanmaeaaW.PrintLast Go.Proofs.Ytndedincanmaeaa.Cp
set_option linter.unusedVariables false
set_option linter.unusedSimpArgs false

attribute [local go_sem high] eqA23 eqA128
/-! ### spec_l4Rank: function 144 -/
mutual
def spec_l4Rank.l0 : Nat → List (S23) → Int → Int → Option (Int)
 | 0, _, _, _ => none
 | k + 1, x0, x3, x4 => if x4 < (x0.length : Int) then (if x3 = 0 then (if 0 ≤ x4 then (spec_l4Rank.j1 k x0 x3 x4 (!(((rd_T23 x0 x4).f0) == 0) || (!(((rd_T23 x0 x4).f1) == 0) || (!(((rd_T23 x0 x4).f2) == 0) || (!(((rd_T23 x0 x4).f3) == 0)))))) else (none)) else (spec_l4Rank.j1 k x0 x3 x4 false)) else (some x3)
def spec_l4Rank.j1 : Nat → List (S23) → Int → Int → Bool → Option (Int)
 | 0, _, _, _, _ => none
 | k + 1, x0, x3, x4, x22 => if x22 = true then (spec_l4Rank.j2 k x0 1 x4) else (spec_l4Rank.j2 k x0 x3 x4)
def spec_l4Rank.j2 : Nat → List (S23) → Int → Int → Option (Int)
 | 0, _, _, _ => none
 | k + 1, x0, x3, x4 => spec_l4Rank.l1 k x0 x3 x4 (wrap64 (x4 + 1))
def spec_l4Rank.l1 : Nat → List (S23) → Int → Int → Int → Option (Int)
 | 0, _, _, _, _ => none
 | k + 1, x0, x3, x4, x5 => if x5 < (x0.length : Int) then (if 0 ≤ x4 then (if x4 < (x0.length : Int) then (if 0 ≤ x5 then ((spec_l4Cross.f ((rd_T23 x0 x4).f0) ((rd_T23 x0 x4).f1) ((rd_T23 x0 x4).f2) ((rd_T23 x0 x4).f3) ((rd_T23 x0 x5).f0) ((rd_T23 x0 x5).f1) ((rd_T23 x0 x5).f2) ((rd_T23 x0 x5).f3)).bind fun bt590 => (if (bt590.1 == 0 && (bt590.2.1 == 0 && (bt590.2.2 == 0))) = true then (spec_l4Rank.l1 k x0 x3 x4 (wrap64 (x5 + 1))) else (if x3 < 2 then (spec_l4Rank.j4 k x0 2 x4 x5) else (spec_l4Rank.j4 k x0 x3 x4 x5)))) else (none)) else (none)) else (none)) else (spec_l4Rank.l0 k x0 x3 (wrap64 (x4 + 1)))
def spec_l4Rank.j4 : Nat → List (S23) → Int → Int → Int → Option (Int)
 | 0, _, _, _, _ => none
 | k + 1, x0, x3, x4, x5 => spec_l4Rank.l2 k x0 x3 x4 x5 (wrap64 (x5 + 1))
def spec_l4Rank.l2 : Nat → List (S23) → Int → Int → Int → Int → Option (Int)
 | 0, _, _, _, _, _ => none
 | k + 1, x0, x3, x4, x5, x6 => if x6 < (x0.length : Int) then (if 0 ≤ x4 then (if x4 < (x0.length : Int) then (if 0 ≤ x5 then (if x5 < (x0.length : Int) then (if 0 ≤ x6 then ((spec_l4Det3.f ((rd_T23 x0 x4).f0) ((rd_T23 x0 x4).f1) ((rd_T23 x0 x4).f2) ((rd_T23 x0 x4).f3) ((rd_T23 x0 x5).f0) ((rd_T23 x0 x5).f1) ((rd_T23 x0 x5).f2) ((rd_T23 x0 x5).f3) ((rd_T23 x0 x6).f0) ((rd_T23 x0 x6).f1) ((rd_T23 x0 x6).f2) ((rd_T23 x0 x6).f3)).bind fun t596 => (if t596 = 0 then (spec_l4Rank.l2 k x0 x3 x4 x5 (wrap64 (x6 + 1))) else (some 3))) else (none)) else (none)) else (none)) else (none)) else (none)) else (spec_l4Rank.l1 k x0 x3 x4 (wrap64 (x5 + 1)))
end
def spec_l4Rank.f (k : Nat) (l0 : List (S23)) : Option (Int) := spec_l4Rank.l0 k l0 0 0
theorem spec_l4Rank.mono_l : ∀ k, (∀ y0 y1 y2, LeO (spec_l4Rank.l0 k y0 y1 y2) (spec_l4Rank.l0 (k + 1) y0 y1 y2)) ∧ (∀ y0 y1 y2 y3, LeO (spec_l4Rank.j1 k y0 y1 y2 y3) (spec_l4Rank.j1 (k + 1) y0 y1 y2 y3)) ∧ (∀ y0 y1 y2, LeO (spec_l4Rank.j2 k y0 y1 y2) (spec_l4Rank.j2 (k + 1) y0 y1 y2)) ∧ (∀ y0 y1 y2 y3, LeO (spec_l4Rank.l1 k y0 y1 y2 y3) (spec_l4Rank.l1 (k + 1) y0 y1 y2 y3)) ∧ (∀ y0 y1 y2 y3, LeO (spec_l4Rank.j4 k y0 y1 y2 y3) (spec_l4Rank.j4 (k + 1) y0 y1 y2 y3)) ∧ (∀ y0 y1 y2 y3 y4, LeO (spec_l4Rank.l2 k y0 y1 y2 y3 y4) (spec_l4Rank.l2 (k + 1) y0 y1 y2 y3 y4))
 | 0 => ⟨fun _ _ _ r h => by simp [spec_l4Rank.l0] at h, fun _ _ _ _ r h => by simp [spec_l4Rank.j1] at h, fun _ _ _ r h => by simp [spec_l4Rank.j2] at h, fun _ _ _ _ r h => by simp [spec_l4Rank.l1] at h, fun _ _ _ _ r h => by simp [spec_l4Rank.j4] at h, fun _ _ _ _ _ r h => by simp [spec_l4Rank.l2] at h⟩
 | k + 1 => by
  obtain ⟨ih0, ih1, ih2, ih3, ih4, ih5⟩ := spec_l4Rank.mono_l k
  refine ⟨?_, ?_, ?_, ?_, ?_, ?_⟩
  ·intro y0 y1 y2
   unfold spec_l4Rank.l0
   repeat' first
   | (with_reducible exact ih0 _ _ _)
   | (with_reducible exact ih1 _ _ _ _)
   | (with_reducible exact ih2 _ _ _)
   | (with_reducible exact ih3 _ _ _ _)
   | (with_reducible exact ih4 _ _ _ _)
   | (with_reducible exact ih5 _ _ _ _ _)
   | (with_reducible exact LeO.refl _)
   | (with_reducible exact LeO.none _)
   | (with_reducible refine LeO.ite ?_ ?_)
   | (with_reducible refine LeO.bind ?_ (fun _ => ?_))
   | exact ih0 _ _ _
   | exact ih1 _ _ _ _
   | exact ih2 _ _ _
   | exact ih3 _ _ _ _
   | exact ih4 _ _ _ _
   | exact ih5 _ _ _ _ _
   | exact LeO.none _
   | refine LeO.ite ?_ ?_
   | refine LeO.bind ?_ (fun _ => ?_)
  ·intro y0 y1 y2 y3
   unfold spec_l4Rank.j1
   repeat' first
   | (with_reducible exact ih0 _ _ _)
   | (with_reducible exact ih1 _ _ _ _)
   | (with_reducible exact ih2 _ _ _)
   | (with_reducible exact ih3 _ _ _ _)
   | (with_reducible exact ih4 _ _ _ _)
   | (with_reducible exact ih5 _ _ _ _ _)
   | (with_reducible exact LeO.refl _)
   | (with_reducible exact LeO.none _)
   | (with_reducible refine LeO.ite ?_ ?_)
   | (with_reducible refine LeO.bind ?_ (fun _ => ?_))
   | exact ih0 _ _ _
   | exact ih1 _ _ _ _
   | exact ih2 _ _ _
   | exact ih3 _ _ _ _
   | exact ih4 _ _ _ _
   | exact ih5 _ _ _ _ _
   | exact LeO.none _
   | refine LeO.ite ?_ ?_
   | refine LeO.bind ?_ (fun _ => ?_)
  ·intro y0 y1 y2
   unfold spec_l4Rank.j2
   repeat' first
   | (with_reducible exact ih0 _ _ _)
   | (with_reducible exact ih1 _ _ _ _)
   | (with_reducible exact ih2 _ _ _)
   | (with_reducible exact ih3 _ _ _ _)
   | (with_reducible exact ih4 _ _ _ _)
   | (with_reducible exact ih5 _ _ _ _ _)
   | (with_reducible exact LeO.refl _)
   | (with_reducible exact LeO.none _)
   | (with_reducible refine LeO.ite ?_ ?_)
   | (with_reducible refine LeO.bind ?_ (fun _ => ?_))
   | exact ih0 _ _ _
   | exact ih1 _ _ _ _
   | exact ih2 _ _ _
   | exact ih3 _ _ _ _
   | exact ih4 _ _ _ _
   | exact ih5 _ _ _ _ _
   | exact LeO.none _
   | refine LeO.ite ?_ ?_
   | refine LeO.bind ?_ (fun _ => ?_)
  ·intro y0 y1 y2 y3
   unfold spec_l4Rank.l1
   repeat' first
   | (with_reducible exact ih0 _ _ _)
   | (with_reducible exact ih1 _ _ _ _)
   | (with_reducible exact ih2 _ _ _)
   | (with_reducible exact ih3 _ _ _ _)
   | (with_reducible exact ih4 _ _ _ _)
   | (with_reducible exact ih5 _ _ _ _ _)
   | (with_reducible exact LeO.refl _)
   | (with_reducible exact LeO.none _)
   | (with_reducible refine LeO.ite ?_ ?_)
   | (with_reducible refine LeO.bind ?_ (fun _ => ?_))
   | exact ih0 _ _ _
   | exact ih1 _ _ _ _
   | exact ih2 _ _ _
   | exact ih3 _ _ _ _
   | exact ih4 _ _ _ _
   | exact ih5 _ _ _ _ _
   | exact LeO.none _
   | refine LeO.ite ?_ ?_
   | refine LeO.bind ?_ (fun _ => ?_)
  ·intro y0 y1 y2 y3
   unfold spec_l4Rank.j4
   repeat' first
   | (with_reducible exact ih0 _ _ _)
   | (with_reducible exact ih1 _ _ _ _)
   | (with_reducible exact ih2 _ _ _)
   | (with_reducible exact ih3 _ _ _ _)
   | (with_reducible exact ih4 _ _ _ _)
   | (with_reducible exact ih5 _ _ _ _ _)
   | (with_reducible exact LeO.refl _)
   | (with_reducible exact LeO.none _)
   | (with_reducible refine LeO.ite ?_ ?_)
   | (with_reducible refine LeO.bind ?_ (fun _ => ?_))
   | exact ih0 _ _ _
   | exact ih1 _ _ _ _
   | exact ih2 _ _ _
   | exact ih3 _ _ _ _
   | exact ih4 _ _ _ _
   | exact ih5 _ _ _ _ _
   | exact LeO.none _
   | refine LeO.ite ?_ ?_
   | refine LeO.bind ?_ (fun _ => ?_)
  intro y0 y1 y2 y3 y4
  unfold spec_l4Rank.l2
  repeat' first
  | (with_reducible exact ih0 _ _ _)
  | (with_reducible exact ih1 _ _ _ _)
  | (with_reducible exact ih2 _ _ _)
  | (with_reducible exact ih3 _ _ _ _)
  | (with_reducible exact ih4 _ _ _ _)
  | (with_reducible exact ih5 _ _ _ _ _)
  | (with_reducible exact LeO.refl _)
  | (with_reducible exact LeO.none _)
  | (with_reducible refine LeO.ite ?_ ?_)
  | (with_reducible refine LeO.bind ?_ (fun _ => ?_))
  | exact ih0 _ _ _
  | exact ih1 _ _ _ _
  | exact ih2 _ _ _
  | exact ih3 _ _ _ _
  | exact ih4 _ _ _ _
  | exact ih5 _ _ _ _ _
  | exact LeO.none _
  | refine LeO.ite ?_ ?_
  | refine LeO.bind ?_ (fun _ => ?_)
theorem spec_l4Rank.mono : ∀ a0 k, LeO (spec_l4Rank.f k a0) (spec_l4Rank.f (k + 1) a0) := by
 intro a0 k
 obtain ⟨ih0, ih1, ih2, ih3, ih4, ih5⟩ := spec_l4Rank.mono_l k
 unfold spec_l4Rank.f
 repeat' first
   | (with_reducible exact ih0 _ _ _)
   | (with_reducible exact ih1 _ _ _ _)
   | (with_reducible exact ih2 _ _ _)
   | (with_reducible exact ih3 _ _ _ _)
   | (with_reducible exact ih4 _ _ _ _)
   | (with_reducible exact ih5 _ _ _ _ _)
   | (with_reducible exact LeO.refl _)
   | (with_reducible exact LeO.none _)
   | (with_reducible refine LeO.ite ?_ ?_)
   | (with_reducible refine LeO.bind ?_ (fun _ => ?_))
   | exact ih0 _ _ _
   | exact ih1 _ _ _ _
   | exact ih2 _ _ _
   | exact ih3 _ _ _ _
   | exact ih4 _ _ _ _
   | exact ih5 _ _ _ _ _
   | exact LeO.none _
   | refine LeO.ite ?_ ?_
   | refine LeO.bind ?_ (fun _ => ?_)
def spec_l4Rank.T10 : Bool × List (List Nat × List Nat) := (true, [([], []), ([], []), ([0, 1], [0, 1]), ([2], [2]), ([], []), ([], []), ([4, 5], [4, 5]), ([6], [6]), ([3, 7], [3, 7]), ([], []), ([8, 9], [8, 9])])
def spec_l4Rank.B10 : List Nat := [0, 0, 3, 7, 0, 0, 48, 112, 255, 0, 1023]
theorem spec_l4Rank.tab10 : rtab .any (opsOf Try.f144 10) = spec_l4Rank.T10 := by kernel_rfl
theorem spec_l4Rank.bits10 : waitsOk spec_l4Rank.T10.2 spec_l4Rank.B10 = true := by kernel_rfl
def spec_l4Rank.T16 : Bool × List (List Nat × List Nat) := (true, [([], []), ([], []), ([0, 1], [0, 1]), ([2], [2]), ([], []), ([], []), ([4, 5], [4, 5]), ([6], [6]), ([], []), ([], []), ([8, 9], [8, 9]), ([10], [10]), ([3, 7, 11], [3, 7, 11]), ([12], [12])])
def spec_l4Rank.B16 : List Nat := [0, 0, 3, 7, 0, 0, 48, 112, 0, 0, 768, 1792, 4095, 8191]
theorem spec_l4Rank.tab16 : rtab .any (opsOf Try.f144 16) = spec_l4Rank.T16 := by kernel_rfl
theorem spec_l4Rank.bits16 : waitsOk spec_l4Rank.T16.2 spec_l4Rank.B16 = true := by kernel_rfl
set_option maxHeartbeats 8000000 in
set_option maxRecDepth 100000 in
theorem spec_l4Rank.calls (k : Nat) (A0 : Option Addr) (c0 : Nat) (l0 : List (S23)) (r : Int) (w : World) (hr0 : Kd.C k23 w A0 l0.length l0) (hc0 : l0.length ≤ c0) (h : spec_l4Rank.f k l0 = some r) :
  Calls Try.prog 144 #[.slice A0 l0.length c0] w fun e w' => e = .returned (.int .i64 r) ∧ Below w.heap.size w w' := by
 have hu23 := Try.underlying23
 have hu128 := Try.underlying128
 have HR0 := Aside0.mk hr0
 have HC0 := Aside0.mk hc0
 clear hr0 hc0
 have HB := Aside0.mk (Below.refl w.heap.size w)
 have H : (spec_l4Rank.l0 k l0 0 0) = some r := h
 clear h
 have H' := Aside0.mk H
 clear H
 go_enter Try.func144, Try.ntmps144
 go_wp2
 go_loopg [3, 4] k (fun kq v3 v4 w' => ∃ (x3_1 : Int) (x4_1 : Int), v3 = .int .i64 x3_1 ∧ v4 = .int .i64 x4_1 ∧ Aside0 (spec_l4Rank.l0 kq l0 x3_1 x4_1 = some r) ∧ Aside0 (kq ≤ k) ∧ Aside0 (Below w.heap.size w w'))
 case atStart => exact ⟨(0), (0), re, re, H', ⟨Nat.le_refl _⟩, ⟨by repeat (first | (with_reducible first | exact HB.out | apply below_alloc | apply pw_below_drewN | apply below_drew1) | exact HB.out)⟩⟩
 case round =>
  clear H'
  obtain ⟨x3_1, x4_1, rfl, rfl, HA, HK1, HB⟩ := hrel
  cases gk with
  | zero => exact absurd HA.out (by simp [spec_l4Rank.l0])
  | succ k1 =>
   have H := HA.out
   clear HA
   simp only [spec_l4Rank.l0] at H
   by_cases c2 : x4_1 < (l0.length : Int)
   ·rw [if_pos c2] at H
    have c2b0 : decide (x4_1 < (l0.length : Int)) = true := decide_eq_true c2
    clear c2
    have HC3 := Aside0.mk H
    clear H
    go_upto_region 5 with (fail)
    go_cut [22] (fun v22 wc => ∃ (kq : Nat) (x22_2 : Bool), v22 = .bool x22_2 ∧ Aside0 (spec_l4Rank.j1 kq l0 x3_1 x4_1 x22_2 = some r) ∧ Aside0 (kq ≤ k1) ∧ Aside0 (Below w.heap.size w wc))
    case first =>
     have H := HC3.out
     clear HC3
     by_cases c4 : x3_1 = 0
     ·rw [if_pos c4] at H
      have c4b0 : (x3_1 == 0) = true := beq_iff_eq.mpr c4
      have c4b1 : (x3_1 != 0) = false := bne_eq_false_iff_eq.mpr c4
      clear c4
      (first | rw [c4b0] | (simp only [i64_w, i32_w]; rw [c4b0]) | skip)
      by_cases c5 : 0 ≤ x4_1
      ·rw [if_pos c5] at H
       have c5b0 : decide (0 ≤ x4_1) = true := decide_eq_true c5
       clear c5
       have H' := Aside0.mk H
       clear H
       have p587 : 0 ≤ (x4_1 : Int) := dk
       have q587 : x4_1 < (l0.length : Int) := dk
       obtain ⟨ad587, e587, hx587_0, hx587_1, hx587_2, hx587_3⟩ := at_T23 HR0.out x4_1 p587 q587
       cases e587
       replace hx587_0 := hc HB hx587_0
       replace hx587_1 := hc HB hx587_1
       replace hx587_2 := hc HB hx587_2
       replace hx587_3 := hc HB hx587_3
       replace p587 := eq_true p587
       replace q587 := eq_true q587
       go_wp2
       go_meet
       case rel => exact ⟨_, ((!(((rd_T23 l0 x4_1).f0) == 0) || (!(((rd_T23 l0 x4_1).f1) == 0) || (!(((rd_T23 l0 x4_1).f2) == 0) || (!(((rd_T23 l0 x4_1).f3) == 0)))))), re, H', ⟨by have := HK1.out; first | omega | exact Nat.le_refl _⟩, ⟨by repeat (first | (with_reducible first | exact HB.out | apply below_alloc | apply pw_below_drewN | apply below_drew1) | exact HB.out)⟩⟩
      rw [if_neg c5] at H
      exact absurd H (by simp)
     rw [if_neg c4] at H
     have c4b0 : (x3_1 == 0) = false := beq_eq_false_iff_ne.mpr c4
     have c4b1 : (x3_1 != 0) = true := bne_iff_ne.mpr c4
     (first | rw [c4b0] | (simp only [i64_w, i32_w]; rw [c4b0]) | skip)
     have H' := Aside0.mk H
     clear H
     go_wp2
     go_meet
     case rel => exact ⟨_, (false), re, H', ⟨by have := HK1.out; first | omega | exact Nat.le_refl _⟩, ⟨by repeat (first | (with_reducible first | exact HB.out | apply below_alloc | apply pw_below_drewN | apply below_drew1) | exact HB.out)⟩⟩
    case rest =>
     clear HC3
     obtain ⟨kq, x22_2, rfl, HA, HJ2, HB⟩ := hcut
     cases kq with
     | zero => exact absurd HA.out (by simp [spec_l4Rank.j1])
     | succ kj2 =>
      have H := HA.out
      clear HA
      simp only [spec_l4Rank.j1] at H
      have HC6 := Aside0.mk H
      clear H
      go_upto_if 22 with (fail)
      go_cut [3] (fun v3 wc => ∃ (kq : Nat) (x3_5 : Int), v3 = .int .i64 x3_5 ∧ Aside0 (spec_l4Rank.j2 kq l0 x3_5 x4_1 = some r) ∧ Aside0 (kq ≤ kj2) ∧ Aside0 (Below w.heap.size w wc))
      case first =>
       have H := HC6.out
       clear HC6
       by_cases c7 : x22_2 = true
       ·subst c7
        have H1 : (spec_l4Rank.j2 kj2 l0 1 x4_1) = some r := by rw [if_pos rfl] at H; exact H
        clear H
        have H := H1
        clear H1
        have H' := Aside0.mk H
        clear H
        go_wp2
        go_meet
        case rel => exact ⟨_, (1), re, H', ⟨by have := HK1.out; have := HJ2.out; first | omega | exact Nat.le_refl _⟩, ⟨by repeat (first | (with_reducible first | exact HB.out | apply below_alloc | apply pw_below_drewN | apply below_drew1) | exact HB.out)⟩⟩
       replace c7 := Bool.eq_false_iff.mpr c7
       subst c7
       have H1 : (spec_l4Rank.j2 kj2 l0 x3_1 x4_1) = some r := by rw [if_neg (show ¬ (false = true) by decide)] at H; exact H
       clear H
       have H := H1
       clear H1
       have H' := Aside0.mk H
       clear H
       go_wp2
       go_meet
       case rel => exact ⟨_, (x3_1), re, H', ⟨by have := HK1.out; have := HJ2.out; first | omega | exact Nat.le_refl _⟩, ⟨by repeat (first | (with_reducible first | exact HB.out | apply below_alloc | apply pw_below_drewN | apply below_drew1) | exact HB.out)⟩⟩
      case rest =>
       clear HC6
       obtain ⟨kq, x3_5, rfl, HA, HJ5, HB⟩ := hcut
       cases kq with
       | zero => exact absurd HA.out (by simp [spec_l4Rank.j2])
       | succ kj5 =>
        have H := HA.out
        clear HA
        simp only [spec_l4Rank.j2] at H
        have H' := Aside0.mk H
        clear H
        go_wp2
        go_loopg [3, 5] kj5 (fun kq v3 v5 w' => ∃ (x3_4 : Int) (x5_4 : Int), v3 = .int .i64 x3_4 ∧ v5 = .int .i64 x5_4 ∧ Aside0 (spec_l4Rank.l1 kq l0 x3_4 x4_1 x5_4 = some r) ∧ Aside0 (kq ≤ kj5) ∧ Aside0 (Below w.heap.size w w'))
        case atStart => exact ⟨(x3_5), (wrap64 (x4_1 + 1)), re, re, H', ⟨Nat.le_refl _⟩, ⟨by repeat (first | (with_reducible first | exact HB.out | apply below_alloc | apply pw_below_drewN | apply below_drew1) | exact HB.out)⟩⟩
        case round =>
         clear H'
         obtain ⟨x3_4, x5_4, rfl, rfl, HA, HK4, HB⟩ := hrel
         cases gk with
         | zero => exact absurd HA.out (by simp [spec_l4Rank.l1])
         | succ k4 =>
          have H := HA.out
          clear HA
          simp only [spec_l4Rank.l1] at H
          by_cases c8 : x5_4 < (l0.length : Int)
          ·rw [if_pos c8] at H
           have c8b0 : decide (x5_4 < (l0.length : Int)) = true := decide_eq_true c8
           clear c8
           by_cases c9 : 0 ≤ x4_1
           ·rw [if_pos c9] at H
            have c9b0 : decide (0 ≤ x4_1) = true := decide_eq_true c9
            clear c9
            by_cases c10 : x4_1 < (l0.length : Int)
            ·rw [if_pos c10] at H
             have c10b0 : decide (x4_1 < (l0.length : Int)) = true := decide_eq_true c10
             clear c10
             by_cases c11 : 0 ≤ x5_4
             ·rw [if_pos c11] at H
              have c11b0 : decide (0 ≤ x5_4) = true := decide_eq_true c11
              clear c11
              obtain ⟨⟨t590, t591, t592⟩, A12, H⟩ := bi H
              dsimp only at H
              by_cases c13 : (t590 == 0 && (t591 == 0 && (t592 == 0))) = true
              ·rw [if_pos c13] at H
               have c13b0 : (t590 == 0 && (t591 == 0 && (t592 == 0))) = true := c13
               (try (have c13b1 : decide (t590 = 0 && (t591 == 0 && (t592 == 0))) = true := by simpa using c13))
               (try (have c13b2 : (t590 == 0 && (t591 == 0 && (t592 == 0))) = true := by simpa using c13))
               clear c13
               have H' := Aside0.mk H
               clear H
               try go_wp2
               replace HB := Aside0.mk (below_drew1 HB.out)
               have p588 : 0 ≤ (x4_1 : Int) := dk
               have q588 : x4_1 < (l0.length : Int) := dk
               obtain ⟨ad588, e588, hx588_0, hx588_1, hx588_2, hx588_3⟩ := at_T23 HR0.out x4_1 p588 q588
               have hw588_3 := hx588_3
               have hw588_2 := hx588_2
               have hw588_1 := hx588_1
               have hw588_0 := hx588_0
               cases e588
               replace hx588_0 := hc HB hx588_0
               replace hx588_1 := hc HB hx588_1
               replace hx588_2 := hc HB hx588_2
               replace hx588_3 := hc HB hx588_3
               replace p588 := eq_true p588
               replace q588 := eq_true q588
               have p589 : 0 ≤ (x5_4 : Int) := dk
               have q589 : x5_4 < (l0.length : Int) := dk
               obtain ⟨ad589, e589, hx589_0, hx589_1, hx589_2, hx589_3⟩ := at_T23 HR0.out x5_4 p589 q589
               have hw589_3 := hx589_3
               have hw589_2 := hx589_2
               have hw589_1 := hx589_1
               have hw589_0 := hx589_0
               obtain rfl : ad588 = ad589 := (by injection e589)
               replace hx589_0 := hc HB hx589_0
               replace hx589_1 := hc HB hx589_1
               replace hx589_2 := hc HB hx589_2
               replace hx589_3 := hc HB hx589_3
               replace p589 := eq_true p589
               replace q589 := eq_true q589
               refine start_ (n := 11) (S := fun w' => w'.cell? (ad588.add ((x4_1).toNat * 4)) = some (.int .i64 ((rd_T23 l0 x4_1).f0)) ∧ w'.cell? ⟨(ad588.add ((x4_1).toNat * 4)).block, (ad588.add ((x4_1).toNat * 4)).off + 1, none⟩ = some (.int .i64 ((rd_T23 l0 x4_1).f1)) ∧ w'.cell? ⟨(ad588.add ((x4_1).toNat * 4)).block, (ad588.add ((x4_1).toNat * 4)).off + 2, none⟩ = some (.int .i64 ((rd_T23 l0 x4_1).f2)) ∧ w'.cell? ⟨(ad588.add ((x4_1).toNat * 4)).block, (ad588.add ((x4_1).toNat * 4)).off + 3, none⟩ = some (.int .i64 ((rd_T23 l0 x4_1).f3)) ∧ w'.cell? (ad588.add ((x5_4).toNat * 4)) = some (.int .i64 ((rd_T23 l0 x5_4).f0)) ∧ w'.cell? ⟨(ad588.add ((x5_4).toNat * 4)).block, (ad588.add ((x5_4).toNat * 4)).off + 1, none⟩ = some (.int .i64 ((rd_T23 l0 x5_4).f1)) ∧ w'.cell? ⟨(ad588.add ((x5_4).toNat * 4)).block, (ad588.add ((x5_4).toNat * 4)).off + 2, none⟩ = some (.int .i64 ((rd_T23 l0 x5_4).f2)) ∧ w'.cell? ⟨(ad588.add ((x5_4).toNat * 4)).block, (ad588.add ((x5_4).toNat * 4)).off + 3, none⟩ = some (.int .i64 ((rd_T23 l0 x5_4).f3))) (ds := []) (bl 11 0) (by kernel_rfl) rfl rfl ⟨((HB.out.cell (World.block_lt_of_cell? w _ hw588_0)).trans hw588_0), ((HB.out.cell (World.block_lt_of_cell? w _ hw588_1)).trans hw588_1), ((HB.out.cell (World.block_lt_of_cell? w _ hw588_2)).trans hw588_2), ((HB.out.cell (World.block_lt_of_cell? w _ hw588_3)).trans hw588_3), ((HB.out.cell (World.block_lt_of_cell? w _ hw589_0)).trans hw589_0), ((HB.out.cell (World.block_lt_of_cell? w _ hw589_1)).trans hw589_1), ((HB.out.cell (World.block_lt_of_cell? w _ hw589_2)).trans hw589_2), ((HB.out.cell (World.block_lt_of_cell? w _ hw589_3)).trans hw589_3)⟩ (fun hHeld => ?_); refine with_tabW spec_l4Rank.tab10 spec_l4Rank.bits10 (fun HT_ HW_ => ?_)
               generalize wr.drew = w14 at HB hx588_0 hx588_1 hx588_2 hx588_3 hx589_0 hx589_1 hx589_2 hx589_3 hHeld ⊢
               refine pS 0 31 1 ?_
               refine pS 1 32 3 ?_
               refine pS 2 33 7 ?_
               refine pS 4 35 23 ?_
               refine pS 5 36 55 ?_
               refine pS 6 37 119 ?_
               refine pS 9 40 631 ?_
               refine tS 3 34 639 ?_
               refine tS 7 38 767 ?_
               refine oS 8 39 1023 (fun K hK => ?_)
               refine gO Try.func145 #[.agg #[.int .i64 ((rd_T23 l0 x4_1).f0), .int .i64 ((rd_T23 l0 x4_1).f1), .int .i64 ((rd_T23 l0 x4_1).f2), .int .i64 ((rd_T23 l0 x4_1).f3)], .agg #[.int .i64 ((rd_T23 l0 x5_4).f0), .int .i64 ((rd_T23 l0 x5_4).f1), .int .i64 ((rd_T23 l0 x5_4).f2), .int .i64 ((rd_T23 l0 x5_4).f3)]] ?_
               with_reducible refine (spec_l4Cross.calls ((rd_T23 l0 x4_1).f0) ((rd_T23 l0 x4_1).f1) ((rd_T23 l0 x4_1).f2) ((rd_T23 l0 x4_1).f3) ((rd_T23 l0 x5_4).f0) ((rd_T23 l0 x5_4).f1) ((rd_T23 l0 x5_4).f2) ((rd_T23 l0 x5_4).f3) t590 t591 t592 _ A12.out).mono ?_
               rintro e w15 ⟨rfl, hb⟩
               refine ⟨_, rfl, ?_⟩
               replace HB := bt HB hb
               (try clear hb)
               (try clear hb2)
               (try clear hk)
               (try clear hi)
               refine hK.out _ _ ⟨((HB.out.cell (World.block_lt_of_cell? w _ hw588_0)).trans hw588_0), ((HB.out.cell (World.block_lt_of_cell? w _ hw588_1)).trans hw588_1), ((HB.out.cell (World.block_lt_of_cell? w _ hw588_2)).trans hw588_2), ((HB.out.cell (World.block_lt_of_cell? w _ hw588_3)).trans hw588_3), ((HB.out.cell (World.block_lt_of_cell? w _ hw589_0)).trans hw589_0), ((HB.out.cell (World.block_lt_of_cell? w _ hw589_1)).trans hw589_1), ((HB.out.cell (World.block_lt_of_cell? w _ hw589_2)).trans hw589_2), ((HB.out.cell (World.block_lt_of_cell? w _ hw589_3)).trans hw589_3)⟩ (fun hHeld => ?_)
               clear hK K
               refine nm 39 ?_
               refine pS 10 41 2047 ?_
               refine done_ (done_of HT_.out (by kernel_rfl)) ?_
               try go_wp2
               go_roundg k4
               case measure => have := HK1.out; have := HJ2.out; have := HJ5.out; have := HK4.out; omega
               case rel => exact ⟨(x3_4), (wrap64 (x5_4 + 1)), re, re, H', ⟨by have := HK1.out; have := HJ2.out; have := HJ5.out; have := HK4.out; omega⟩, ⟨by repeat (first | (with_reducible first | exact HB.out | apply below_alloc | apply pw_below_drewN | apply below_drew1) | exact HB.out)⟩⟩
              rw [if_neg c13] at H
              have c13b0 : (t590 == 0 && (t591 == 0 && (t592 == 0))) = false := by simpa using c13
              (try (have c13b1 : decide (t590 = 0 && (t591 == 0 && (t592 == 0))) = false := by simpa using c13))
              (try (have c13b2 : (t590 == 0 && (t591 == 0 && (t592 == 0))) = false := by simpa using c13))
              (try (have c13b3 : ¬ (t590 = 0 && (t591 == 0 && (t592 == 0))) := by simpa using c13))
              clear c13
              have HC16 := Aside0.mk H
              clear H
              try go_wp2
              replace HB := Aside0.mk (below_drew1 HB.out)
              have p588 : 0 ≤ (x4_1 : Int) := dk
              have q588 : x4_1 < (l0.length : Int) := dk
              obtain ⟨ad588, e588, hx588_0, hx588_1, hx588_2, hx588_3⟩ := at_T23 HR0.out x4_1 p588 q588
              have hw588_3 := hx588_3
              have hw588_2 := hx588_2
              have hw588_1 := hx588_1
              have hw588_0 := hx588_0
              cases e588
              replace hx588_0 := hc HB hx588_0
              replace hx588_1 := hc HB hx588_1
              replace hx588_2 := hc HB hx588_2
              replace hx588_3 := hc HB hx588_3
              replace p588 := eq_true p588
              replace q588 := eq_true q588
              have p589 : 0 ≤ (x5_4 : Int) := dk
              have q589 : x5_4 < (l0.length : Int) := dk
              obtain ⟨ad589, e589, hx589_0, hx589_1, hx589_2, hx589_3⟩ := at_T23 HR0.out x5_4 p589 q589
              have hw589_3 := hx589_3
              have hw589_2 := hx589_2
              have hw589_1 := hx589_1
              have hw589_0 := hx589_0
              obtain rfl : ad588 = ad589 := (by injection e589)
              replace hx589_0 := hc HB hx589_0
              replace hx589_1 := hc HB hx589_1
              replace hx589_2 := hc HB hx589_2
              replace hx589_3 := hc HB hx589_3
              replace p589 := eq_true p589
              replace q589 := eq_true q589
              refine start_ (n := 11) (S := fun w' => w'.cell? (ad588.add ((x4_1).toNat * 4)) = some (.int .i64 ((rd_T23 l0 x4_1).f0)) ∧ w'.cell? ⟨(ad588.add ((x4_1).toNat * 4)).block, (ad588.add ((x4_1).toNat * 4)).off + 1, none⟩ = some (.int .i64 ((rd_T23 l0 x4_1).f1)) ∧ w'.cell? ⟨(ad588.add ((x4_1).toNat * 4)).block, (ad588.add ((x4_1).toNat * 4)).off + 2, none⟩ = some (.int .i64 ((rd_T23 l0 x4_1).f2)) ∧ w'.cell? ⟨(ad588.add ((x4_1).toNat * 4)).block, (ad588.add ((x4_1).toNat * 4)).off + 3, none⟩ = some (.int .i64 ((rd_T23 l0 x4_1).f3)) ∧ w'.cell? (ad588.add ((x5_4).toNat * 4)) = some (.int .i64 ((rd_T23 l0 x5_4).f0)) ∧ w'.cell? ⟨(ad588.add ((x5_4).toNat * 4)).block, (ad588.add ((x5_4).toNat * 4)).off + 1, none⟩ = some (.int .i64 ((rd_T23 l0 x5_4).f1)) ∧ w'.cell? ⟨(ad588.add ((x5_4).toNat * 4)).block, (ad588.add ((x5_4).toNat * 4)).off + 2, none⟩ = some (.int .i64 ((rd_T23 l0 x5_4).f2)) ∧ w'.cell? ⟨(ad588.add ((x5_4).toNat * 4)).block, (ad588.add ((x5_4).toNat * 4)).off + 3, none⟩ = some (.int .i64 ((rd_T23 l0 x5_4).f3))) (ds := []) (bl 11 0) (by kernel_rfl) rfl rfl ⟨((HB.out.cell (World.block_lt_of_cell? w _ hw588_0)).trans hw588_0), ((HB.out.cell (World.block_lt_of_cell? w _ hw588_1)).trans hw588_1), ((HB.out.cell (World.block_lt_of_cell? w _ hw588_2)).trans hw588_2), ((HB.out.cell (World.block_lt_of_cell? w _ hw588_3)).trans hw588_3), ((HB.out.cell (World.block_lt_of_cell? w _ hw589_0)).trans hw589_0), ((HB.out.cell (World.block_lt_of_cell? w _ hw589_1)).trans hw589_1), ((HB.out.cell (World.block_lt_of_cell? w _ hw589_2)).trans hw589_2), ((HB.out.cell (World.block_lt_of_cell? w _ hw589_3)).trans hw589_3)⟩ (fun hHeld => ?_); refine with_tabW spec_l4Rank.tab10 spec_l4Rank.bits10 (fun HT_ HW_ => ?_)
              generalize wr.drew = w17 at HB hx588_0 hx588_1 hx588_2 hx588_3 hx589_0 hx589_1 hx589_2 hx589_3 hHeld ⊢
              refine pS 0 31 1 ?_
              refine pS 1 32 3 ?_
              refine pS 2 33 7 ?_
              refine pS 4 35 23 ?_
              refine pS 5 36 55 ?_
              refine pS 6 37 119 ?_
              refine pS 9 40 631 ?_
              refine tS 3 34 639 ?_
              refine tS 7 38 767 ?_
              refine oS 8 39 1023 (fun K hK => ?_)
              refine gO Try.func145 #[.agg #[.int .i64 ((rd_T23 l0 x4_1).f0), .int .i64 ((rd_T23 l0 x4_1).f1), .int .i64 ((rd_T23 l0 x4_1).f2), .int .i64 ((rd_T23 l0 x4_1).f3)], .agg #[.int .i64 ((rd_T23 l0 x5_4).f0), .int .i64 ((rd_T23 l0 x5_4).f1), .int .i64 ((rd_T23 l0 x5_4).f2), .int .i64 ((rd_T23 l0 x5_4).f3)]] ?_
              with_reducible refine (spec_l4Cross.calls ((rd_T23 l0 x4_1).f0) ((rd_T23 l0 x4_1).f1) ((rd_T23 l0 x4_1).f2) ((rd_T23 l0 x4_1).f3) ((rd_T23 l0 x5_4).f0) ((rd_T23 l0 x5_4).f1) ((rd_T23 l0 x5_4).f2) ((rd_T23 l0 x5_4).f3) t590 t591 t592 _ A12.out).mono ?_
              rintro e w18 ⟨rfl, hb⟩
              refine ⟨_, rfl, ?_⟩
              replace HB := bt HB hb
              (try clear hb)
              (try clear hb2)
              (try clear hk)
              (try clear hi)
              refine hK.out _ _ ⟨((HB.out.cell (World.block_lt_of_cell? w _ hw588_0)).trans hw588_0), ((HB.out.cell (World.block_lt_of_cell? w _ hw588_1)).trans hw588_1), ((HB.out.cell (World.block_lt_of_cell? w _ hw588_2)).trans hw588_2), ((HB.out.cell (World.block_lt_of_cell? w _ hw588_3)).trans hw588_3), ((HB.out.cell (World.block_lt_of_cell? w _ hw589_0)).trans hw589_0), ((HB.out.cell (World.block_lt_of_cell? w _ hw589_1)).trans hw589_1), ((HB.out.cell (World.block_lt_of_cell? w _ hw589_2)).trans hw589_2), ((HB.out.cell (World.block_lt_of_cell? w _ hw589_3)).trans hw589_3)⟩ (fun hHeld => ?_)
              clear hK K
              refine nm 39 ?_
              refine pS 10 41 2047 ?_
              refine done_ (done_of HT_.out (by kernel_rfl)) ?_
              go_upto_if 43 with (fail)
              go_cut [3] (fun v3 wc => ∃ (kq : Nat) (x3_15 : Int), v3 = .int .i64 x3_15 ∧ Aside0 (spec_l4Rank.j4 kq l0 x3_15 x4_1 x5_4 = some r) ∧ Aside0 (kq ≤ k4) ∧ Aside0 (Below w.heap.size w wc))
              case first =>
               have H := HC16.out
               clear HC16
               by_cases c19 : x3_4 < 2
               ·rw [if_pos c19] at H
                have c19b0 : decide (x3_4 < 2) = true := decide_eq_true c19
                clear c19
                (first | rw [c19b0] | (simp only [i64_w, i32_w]; rw [c19b0]) | skip)
                have H' := Aside0.mk H
                clear H
                go_wp2
                go_meet
                case rel => exact ⟨_, (2), re, H', ⟨by have := HK1.out; have := HJ2.out; have := HJ5.out; have := HK4.out; first | omega | exact Nat.le_refl _⟩, ⟨by repeat (first | (with_reducible first | exact HB.out | apply below_alloc | apply pw_below_drewN | apply below_drew1) | exact HB.out)⟩⟩
               rw [if_neg c19] at H
               have c19b0 : decide (x3_4 < 2) = false := decide_eq_false c19
               clear c19
               (first | rw [c19b0] | (simp only [i64_w, i32_w]; rw [c19b0]) | skip)
               have H' := Aside0.mk H
               clear H
               go_wp2
               go_meet
               case rel => exact ⟨_, (x3_4), re, H', ⟨by have := HK1.out; have := HJ2.out; have := HJ5.out; have := HK4.out; first | omega | exact Nat.le_refl _⟩, ⟨by repeat (first | (with_reducible first | exact HB.out | apply below_alloc | apply pw_below_drewN | apply below_drew1) | exact HB.out)⟩⟩
              case rest =>
               clear HC16
               obtain ⟨kq, x3_15, rfl, HA, HJ15, HB⟩ := hcut
               cases kq with
               | zero => exact absurd HA.out (by simp [spec_l4Rank.j4])
               | succ kj15 =>
                have H := HA.out
                clear HA
                simp only [spec_l4Rank.j4] at H
                have H' := Aside0.mk H
                clear H
                go_wp2
                go_loopg [6] kj15 (fun kq v6 w' => ∃ (x6_6 : Int), v6 = .int .i64 x6_6 ∧ Aside0 (spec_l4Rank.l2 kq l0 x3_15 x4_1 x5_4 x6_6 = some r) ∧ Aside0 (kq ≤ kj15) ∧ Aside0 (Below w.heap.size w w'))
                case atStart => exact ⟨(wrap64 (x5_4 + 1)), re, H', ⟨Nat.le_refl _⟩, ⟨by repeat (first | (with_reducible first | exact HB.out | apply below_alloc | apply pw_below_drewN | apply below_drew1) | exact HB.out)⟩⟩
                case round =>
                 clear H'
                 obtain ⟨x6_6, rfl, HA, HK6, HB⟩ := hrel
                 cases gk with
                 | zero => exact absurd HA.out (by simp [spec_l4Rank.l2])
                 | succ k6 =>
                  have H := HA.out
                  clear HA
                  simp only [spec_l4Rank.l2] at H
                  by_cases c20 : x6_6 < (l0.length : Int)
                  ·rw [if_pos c20] at H
                   have c20b0 : decide (x6_6 < (l0.length : Int)) = true := decide_eq_true c20
                   clear c20
                   by_cases c21 : 0 ≤ x4_1
                   ·rw [if_pos c21] at H
                    have c21b0 : decide (0 ≤ x4_1) = true := decide_eq_true c21
                    clear c21
                    by_cases c22 : x4_1 < (l0.length : Int)
                    ·rw [if_pos c22] at H
                     have c22b0 : decide (x4_1 < (l0.length : Int)) = true := decide_eq_true c22
                     clear c22
                     by_cases c23 : 0 ≤ x5_4
                     ·rw [if_pos c23] at H
                      have c23b0 : decide (0 ≤ x5_4) = true := decide_eq_true c23
                      clear c23
                      by_cases c24 : x5_4 < (l0.length : Int)
                      ·rw [if_pos c24] at H
                       have c24b0 : decide (x5_4 < (l0.length : Int)) = true := decide_eq_true c24
                       clear c24
                       by_cases c25 : 0 ≤ x6_6
                       ·rw [if_pos c25] at H
                        have c25b0 : decide (0 ≤ x6_6) = true := decide_eq_true c25
                        clear c25
                        obtain ⟨t596, A26, H⟩ := bi H
                        by_cases c27 : t596 = 0
                        ·rw [if_pos c27] at H
                         have c27b0 : (t596 == 0) = true := beq_iff_eq.mpr c27
                         have c27b1 : (t596 != 0) = false := bne_eq_false_iff_eq.mpr c27
                         clear c27
                         have H' := Aside0.mk H
                         clear H
                         try go_wp2
                         replace HB := Aside0.mk (below_drew1 HB.out)
                         have p593 : 0 ≤ (x4_1 : Int) := dk
                         have q593 : x4_1 < (l0.length : Int) := dk
                         obtain ⟨ad593, e593, hx593_0, hx593_1, hx593_2, hx593_3⟩ := at_T23 HR0.out x4_1 p593 q593
                         have hw593_3 := hx593_3
                         have hw593_2 := hx593_2
                         have hw593_1 := hx593_1
                         have hw593_0 := hx593_0
                         obtain rfl : ad588 = ad593 := (by injection e593)
                         replace hx593_0 := hc HB hx593_0
                         replace hx593_1 := hc HB hx593_1
                         replace hx593_2 := hc HB hx593_2
                         replace hx593_3 := hc HB hx593_3
                         replace p593 := eq_true p593
                         replace q593 := eq_true q593
                         have p594 : 0 ≤ (x5_4 : Int) := dk
                         have q594 : x5_4 < (l0.length : Int) := dk
                         obtain ⟨ad594, e594, hx594_0, hx594_1, hx594_2, hx594_3⟩ := at_T23 HR0.out x5_4 p594 q594
                         have hw594_3 := hx594_3
                         have hw594_2 := hx594_2
                         have hw594_1 := hx594_1
                         have hw594_0 := hx594_0
                         obtain rfl : ad588 = ad594 := (by injection e594)
                         replace hx594_0 := hc HB hx594_0
                         replace hx594_1 := hc HB hx594_1
                         replace hx594_2 := hc HB hx594_2
                         replace hx594_3 := hc HB hx594_3
                         replace p594 := eq_true p594
                         replace q594 := eq_true q594
                         have p595 : 0 ≤ (x6_6 : Int) := dk
                         have q595 : x6_6 < (l0.length : Int) := dk
                         obtain ⟨ad595, e595, hx595_0, hx595_1, hx595_2, hx595_3⟩ := at_T23 HR0.out x6_6 p595 q595
                         have hw595_3 := hx595_3
                         have hw595_2 := hx595_2
                         have hw595_1 := hx595_1
                         have hw595_0 := hx595_0
                         obtain rfl : ad588 = ad595 := (by injection e595)
                         replace hx595_0 := hc HB hx595_0
                         replace hx595_1 := hc HB hx595_1
                         replace hx595_2 := hc HB hx595_2
                         replace hx595_3 := hc HB hx595_3
                         replace p595 := eq_true p595
                         replace q595 := eq_true q595
                         refine start_ (n := 14) (S := fun w' => w'.cell? (ad588.add ((x4_1).toNat * 4)) = some (.int .i64 ((rd_T23 l0 x4_1).f0)) ∧ w'.cell? ⟨(ad588.add ((x4_1).toNat * 4)).block, (ad588.add ((x4_1).toNat * 4)).off + 1, none⟩ = some (.int .i64 ((rd_T23 l0 x4_1).f1)) ∧ w'.cell? ⟨(ad588.add ((x4_1).toNat * 4)).block, (ad588.add ((x4_1).toNat * 4)).off + 2, none⟩ = some (.int .i64 ((rd_T23 l0 x4_1).f2)) ∧ w'.cell? ⟨(ad588.add ((x4_1).toNat * 4)).block, (ad588.add ((x4_1).toNat * 4)).off + 3, none⟩ = some (.int .i64 ((rd_T23 l0 x4_1).f3)) ∧ w'.cell? (ad588.add ((x5_4).toNat * 4)) = some (.int .i64 ((rd_T23 l0 x5_4).f0)) ∧ w'.cell? ⟨(ad588.add ((x5_4).toNat * 4)).block, (ad588.add ((x5_4).toNat * 4)).off + 1, none⟩ = some (.int .i64 ((rd_T23 l0 x5_4).f1)) ∧ w'.cell? ⟨(ad588.add ((x5_4).toNat * 4)).block, (ad588.add ((x5_4).toNat * 4)).off + 2, none⟩ = some (.int .i64 ((rd_T23 l0 x5_4).f2)) ∧ w'.cell? ⟨(ad588.add ((x5_4).toNat * 4)).block, (ad588.add ((x5_4).toNat * 4)).off + 3, none⟩ = some (.int .i64 ((rd_T23 l0 x5_4).f3)) ∧ w'.cell? (ad588.add ((x6_6).toNat * 4)) = some (.int .i64 ((rd_T23 l0 x6_6).f0)) ∧ w'.cell? ⟨(ad588.add ((x6_6).toNat * 4)).block, (ad588.add ((x6_6).toNat * 4)).off + 1, none⟩ = some (.int .i64 ((rd_T23 l0 x6_6).f1)) ∧ w'.cell? ⟨(ad588.add ((x6_6).toNat * 4)).block, (ad588.add ((x6_6).toNat * 4)).off + 2, none⟩ = some (.int .i64 ((rd_T23 l0 x6_6).f2)) ∧ w'.cell? ⟨(ad588.add ((x6_6).toNat * 4)).block, (ad588.add ((x6_6).toNat * 4)).off + 3, none⟩ = some (.int .i64 ((rd_T23 l0 x6_6).f3))) (ds := []) (bl 14 0) (by kernel_rfl) rfl rfl ⟨((HB.out.cell (World.block_lt_of_cell? w _ hw593_0)).trans hw593_0), ((HB.out.cell (World.block_lt_of_cell? w _ hw593_1)).trans hw593_1), ((HB.out.cell (World.block_lt_of_cell? w _ hw593_2)).trans hw593_2), ((HB.out.cell (World.block_lt_of_cell? w _ hw593_3)).trans hw593_3), ((HB.out.cell (World.block_lt_of_cell? w _ hw594_0)).trans hw594_0), ((HB.out.cell (World.block_lt_of_cell? w _ hw594_1)).trans hw594_1), ((HB.out.cell (World.block_lt_of_cell? w _ hw594_2)).trans hw594_2), ((HB.out.cell (World.block_lt_of_cell? w _ hw594_3)).trans hw594_3), ((HB.out.cell (World.block_lt_of_cell? w _ hw595_0)).trans hw595_0), ((HB.out.cell (World.block_lt_of_cell? w _ hw595_1)).trans hw595_1), ((HB.out.cell (World.block_lt_of_cell? w _ hw595_2)).trans hw595_2), ((HB.out.cell (World.block_lt_of_cell? w _ hw595_3)).trans hw595_3)⟩ (fun hHeld => ?_); refine with_tabW spec_l4Rank.tab16 spec_l4Rank.bits16 (fun HT_ HW_ => ?_)
                         generalize wr.drew = w28 at HB hx593_0 hx593_1 hx593_2 hx593_3 hx594_0 hx594_1 hx594_2 hx594_3 hx595_0 hx595_1 hx595_2 hx595_3 hHeld ⊢
                         refine pS 0 52 1 ?_
                         refine pS 1 53 3 ?_
                         refine pS 2 54 7 ?_
                         refine pS 4 56 23 ?_
                         refine pS 5 57 55 ?_
                         refine pS 6 58 119 ?_
                         refine pS 8 60 375 ?_
                         refine pS 9 61 887 ?_
                         refine pS 10 62 1911 ?_
                         refine tS 3 55 1919 ?_
                         refine tS 7 59 2047 ?_
                         refine tS 11 63 4095 ?_
                         refine oS 12 64 8191 (fun K hK => ?_)
                         refine gO Try.func169 #[.agg #[.int .i64 ((rd_T23 l0 x4_1).f0), .int .i64 ((rd_T23 l0 x4_1).f1), .int .i64 ((rd_T23 l0 x4_1).f2), .int .i64 ((rd_T23 l0 x4_1).f3)], .agg #[.int .i64 ((rd_T23 l0 x5_4).f0), .int .i64 ((rd_T23 l0 x5_4).f1), .int .i64 ((rd_T23 l0 x5_4).f2), .int .i64 ((rd_T23 l0 x5_4).f3)], .agg #[.int .i64 ((rd_T23 l0 x6_6).f0), .int .i64 ((rd_T23 l0 x6_6).f1), .int .i64 ((rd_T23 l0 x6_6).f2), .int .i64 ((rd_T23 l0 x6_6).f3)]] ?_
                         with_reducible refine (spec_l4Det3.calls ((rd_T23 l0 x4_1).f0) ((rd_T23 l0 x4_1).f1) ((rd_T23 l0 x4_1).f2) ((rd_T23 l0 x4_1).f3) ((rd_T23 l0 x5_4).f0) ((rd_T23 l0 x5_4).f1) ((rd_T23 l0 x5_4).f2) ((rd_T23 l0 x5_4).f3) ((rd_T23 l0 x6_6).f0) ((rd_T23 l0 x6_6).f1) ((rd_T23 l0 x6_6).f2) ((rd_T23 l0 x6_6).f3) t596 _ A26.out).mono ?_
                         rintro e w29 ⟨rfl, hb⟩
                         refine ⟨_, rfl, ?_⟩
                         replace HB := bt HB hb
                         (try clear hb)
                         (try clear hb2)
                         (try clear hk)
                         (try clear hi)
                         refine hK.out _ _ ⟨((HB.out.cell (World.block_lt_of_cell? w _ hw593_0)).trans hw593_0), ((HB.out.cell (World.block_lt_of_cell? w _ hw593_1)).trans hw593_1), ((HB.out.cell (World.block_lt_of_cell? w _ hw593_2)).trans hw593_2), ((HB.out.cell (World.block_lt_of_cell? w _ hw593_3)).trans hw593_3), ((HB.out.cell (World.block_lt_of_cell? w _ hw594_0)).trans hw594_0), ((HB.out.cell (World.block_lt_of_cell? w _ hw594_1)).trans hw594_1), ((HB.out.cell (World.block_lt_of_cell? w _ hw594_2)).trans hw594_2), ((HB.out.cell (World.block_lt_of_cell? w _ hw594_3)).trans hw594_3), ((HB.out.cell (World.block_lt_of_cell? w _ hw595_0)).trans hw595_0), ((HB.out.cell (World.block_lt_of_cell? w _ hw595_1)).trans hw595_1), ((HB.out.cell (World.block_lt_of_cell? w _ hw595_2)).trans hw595_2), ((HB.out.cell (World.block_lt_of_cell? w _ hw595_3)).trans hw595_3)⟩ (fun hHeld => ?_)
                         clear hK K
                         refine nm 64 ?_
                         refine pS 13 65 16383 ?_
                         refine done_ (done_of HT_.out (by kernel_rfl)) ?_
                         try go_wp2
                         go_roundg k6
                         case measure => have := HK1.out; have := HJ2.out; have := HJ5.out; have := HK4.out; have := HJ15.out; have := HK6.out; omega
                         case rel => exact ⟨(wrap64 (x6_6 + 1)), re, H', ⟨by have := HK1.out; have := HJ2.out; have := HJ5.out; have := HK4.out; have := HJ15.out; have := HK6.out; omega⟩, ⟨by repeat (first | (with_reducible first | exact HB.out | apply below_alloc | apply pw_below_drewN | apply below_drew1) | exact HB.out)⟩⟩
                        rw [if_neg c27] at H
                        have c27b0 : (t596 == 0) = false := beq_eq_false_iff_ne.mpr c27
                        have c27b1 : (t596 != 0) = true := bne_iff_ne.mpr c27
                        obtain rfl := Option.some.inj H
                        try go_wp2
                        replace HB := Aside0.mk (below_drew1 HB.out)
                        have p593 : 0 ≤ (x4_1 : Int) := dk
                        have q593 : x4_1 < (l0.length : Int) := dk
                        obtain ⟨ad593, e593, hx593_0, hx593_1, hx593_2, hx593_3⟩ := at_T23 HR0.out x4_1 p593 q593
                        have hw593_3 := hx593_3
                        have hw593_2 := hx593_2
                        have hw593_1 := hx593_1
                        have hw593_0 := hx593_0
                        obtain rfl : ad588 = ad593 := (by injection e593)
                        replace hx593_0 := hc HB hx593_0
                        replace hx593_1 := hc HB hx593_1
                        replace hx593_2 := hc HB hx593_2
                        replace hx593_3 := hc HB hx593_3
                        replace p593 := eq_true p593
                        replace q593 := eq_true q593
                        have p594 : 0 ≤ (x5_4 : Int) := dk
                        have q594 : x5_4 < (l0.length : Int) := dk
                        obtain ⟨ad594, e594, hx594_0, hx594_1, hx594_2, hx594_3⟩ := at_T23 HR0.out x5_4 p594 q594
                        have hw594_3 := hx594_3
                        have hw594_2 := hx594_2
                        have hw594_1 := hx594_1
                        have hw594_0 := hx594_0
                        obtain rfl : ad588 = ad594 := (by injection e594)
                        replace hx594_0 := hc HB hx594_0
                        replace hx594_1 := hc HB hx594_1
                        replace hx594_2 := hc HB hx594_2
                        replace hx594_3 := hc HB hx594_3
                        replace p594 := eq_true p594
                        replace q594 := eq_true q594
                        have p595 : 0 ≤ (x6_6 : Int) := dk
                        have q595 : x6_6 < (l0.length : Int) := dk
                        obtain ⟨ad595, e595, hx595_0, hx595_1, hx595_2, hx595_3⟩ := at_T23 HR0.out x6_6 p595 q595
                        have hw595_3 := hx595_3
                        have hw595_2 := hx595_2
                        have hw595_1 := hx595_1
                        have hw595_0 := hx595_0
                        obtain rfl : ad588 = ad595 := (by injection e595)
                        replace hx595_0 := hc HB hx595_0
                        replace hx595_1 := hc HB hx595_1
                        replace hx595_2 := hc HB hx595_2
                        replace hx595_3 := hc HB hx595_3
                        replace p595 := eq_true p595
                        replace q595 := eq_true q595
                        refine start_ (n := 14) (S := fun w' => w'.cell? (ad588.add ((x4_1).toNat * 4)) = some (.int .i64 ((rd_T23 l0 x4_1).f0)) ∧ w'.cell? ⟨(ad588.add ((x4_1).toNat * 4)).block, (ad588.add ((x4_1).toNat * 4)).off + 1, none⟩ = some (.int .i64 ((rd_T23 l0 x4_1).f1)) ∧ w'.cell? ⟨(ad588.add ((x4_1).toNat * 4)).block, (ad588.add ((x4_1).toNat * 4)).off + 2, none⟩ = some (.int .i64 ((rd_T23 l0 x4_1).f2)) ∧ w'.cell? ⟨(ad588.add ((x4_1).toNat * 4)).block, (ad588.add ((x4_1).toNat * 4)).off + 3, none⟩ = some (.int .i64 ((rd_T23 l0 x4_1).f3)) ∧ w'.cell? (ad588.add ((x5_4).toNat * 4)) = some (.int .i64 ((rd_T23 l0 x5_4).f0)) ∧ w'.cell? ⟨(ad588.add ((x5_4).toNat * 4)).block, (ad588.add ((x5_4).toNat * 4)).off + 1, none⟩ = some (.int .i64 ((rd_T23 l0 x5_4).f1)) ∧ w'.cell? ⟨(ad588.add ((x5_4).toNat * 4)).block, (ad588.add ((x5_4).toNat * 4)).off + 2, none⟩ = some (.int .i64 ((rd_T23 l0 x5_4).f2)) ∧ w'.cell? ⟨(ad588.add ((x5_4).toNat * 4)).block, (ad588.add ((x5_4).toNat * 4)).off + 3, none⟩ = some (.int .i64 ((rd_T23 l0 x5_4).f3)) ∧ w'.cell? (ad588.add ((x6_6).toNat * 4)) = some (.int .i64 ((rd_T23 l0 x6_6).f0)) ∧ w'.cell? ⟨(ad588.add ((x6_6).toNat * 4)).block, (ad588.add ((x6_6).toNat * 4)).off + 1, none⟩ = some (.int .i64 ((rd_T23 l0 x6_6).f1)) ∧ w'.cell? ⟨(ad588.add ((x6_6).toNat * 4)).block, (ad588.add ((x6_6).toNat * 4)).off + 2, none⟩ = some (.int .i64 ((rd_T23 l0 x6_6).f2)) ∧ w'.cell? ⟨(ad588.add ((x6_6).toNat * 4)).block, (ad588.add ((x6_6).toNat * 4)).off + 3, none⟩ = some (.int .i64 ((rd_T23 l0 x6_6).f3))) (ds := []) (bl 14 0) (by kernel_rfl) rfl rfl ⟨((HB.out.cell (World.block_lt_of_cell? w _ hw593_0)).trans hw593_0), ((HB.out.cell (World.block_lt_of_cell? w _ hw593_1)).trans hw593_1), ((HB.out.cell (World.block_lt_of_cell? w _ hw593_2)).trans hw593_2), ((HB.out.cell (World.block_lt_of_cell? w _ hw593_3)).trans hw593_3), ((HB.out.cell (World.block_lt_of_cell? w _ hw594_0)).trans hw594_0), ((HB.out.cell (World.block_lt_of_cell? w _ hw594_1)).trans hw594_1), ((HB.out.cell (World.block_lt_of_cell? w _ hw594_2)).trans hw594_2), ((HB.out.cell (World.block_lt_of_cell? w _ hw594_3)).trans hw594_3), ((HB.out.cell (World.block_lt_of_cell? w _ hw595_0)).trans hw595_0), ((HB.out.cell (World.block_lt_of_cell? w _ hw595_1)).trans hw595_1), ((HB.out.cell (World.block_lt_of_cell? w _ hw595_2)).trans hw595_2), ((HB.out.cell (World.block_lt_of_cell? w _ hw595_3)).trans hw595_3)⟩ (fun hHeld => ?_); refine with_tabW spec_l4Rank.tab16 spec_l4Rank.bits16 (fun HT_ HW_ => ?_)
                        generalize wr.drew = w30 at HB hx593_0 hx593_1 hx593_2 hx593_3 hx594_0 hx594_1 hx594_2 hx594_3 hx595_0 hx595_1 hx595_2 hx595_3 hHeld ⊢
                        refine pS 0 52 1 ?_
                        refine pS 1 53 3 ?_
                        refine pS 2 54 7 ?_
                        refine pS 4 56 23 ?_
                        refine pS 5 57 55 ?_
                        refine pS 6 58 119 ?_
                        refine pS 8 60 375 ?_
                        refine pS 9 61 887 ?_
                        refine pS 10 62 1911 ?_
                        refine tS 3 55 1919 ?_
                        refine tS 7 59 2047 ?_
                        refine tS 11 63 4095 ?_
                        refine oS 12 64 8191 (fun K hK => ?_)
                        refine gO Try.func169 #[.agg #[.int .i64 ((rd_T23 l0 x4_1).f0), .int .i64 ((rd_T23 l0 x4_1).f1), .int .i64 ((rd_T23 l0 x4_1).f2), .int .i64 ((rd_T23 l0 x4_1).f3)], .agg #[.int .i64 ((rd_T23 l0 x5_4).f0), .int .i64 ((rd_T23 l0 x5_4).f1), .int .i64 ((rd_T23 l0 x5_4).f2), .int .i64 ((rd_T23 l0 x5_4).f3)], .agg #[.int .i64 ((rd_T23 l0 x6_6).f0), .int .i64 ((rd_T23 l0 x6_6).f1), .int .i64 ((rd_T23 l0 x6_6).f2), .int .i64 ((rd_T23 l0 x6_6).f3)]] ?_
                        with_reducible refine (spec_l4Det3.calls ((rd_T23 l0 x4_1).f0) ((rd_T23 l0 x4_1).f1) ((rd_T23 l0 x4_1).f2) ((rd_T23 l0 x4_1).f3) ((rd_T23 l0 x5_4).f0) ((rd_T23 l0 x5_4).f1) ((rd_T23 l0 x5_4).f2) ((rd_T23 l0 x5_4).f3) ((rd_T23 l0 x6_6).f0) ((rd_T23 l0 x6_6).f1) ((rd_T23 l0 x6_6).f2) ((rd_T23 l0 x6_6).f3) t596 _ A26.out).mono ?_
                        rintro e w31 ⟨rfl, hb⟩
                        refine ⟨_, rfl, ?_⟩
                        replace HB := bt HB hb
                        (try clear hb)
                        (try clear hb2)
                        (try clear hk)
                        (try clear hi)
                        refine hK.out _ _ ⟨((HB.out.cell (World.block_lt_of_cell? w _ hw593_0)).trans hw593_0), ((HB.out.cell (World.block_lt_of_cell? w _ hw593_1)).trans hw593_1), ((HB.out.cell (World.block_lt_of_cell? w _ hw593_2)).trans hw593_2), ((HB.out.cell (World.block_lt_of_cell? w _ hw593_3)).trans hw593_3), ((HB.out.cell (World.block_lt_of_cell? w _ hw594_0)).trans hw594_0), ((HB.out.cell (World.block_lt_of_cell? w _ hw594_1)).trans hw594_1), ((HB.out.cell (World.block_lt_of_cell? w _ hw594_2)).trans hw594_2), ((HB.out.cell (World.block_lt_of_cell? w _ hw594_3)).trans hw594_3), ((HB.out.cell (World.block_lt_of_cell? w _ hw595_0)).trans hw595_0), ((HB.out.cell (World.block_lt_of_cell? w _ hw595_1)).trans hw595_1), ((HB.out.cell (World.block_lt_of_cell? w _ hw595_2)).trans hw595_2), ((HB.out.cell (World.block_lt_of_cell? w _ hw595_3)).trans hw595_3)⟩ (fun hHeld => ?_)
                        clear hK K
                        refine nm 64 ?_
                        refine pS 13 65 16383 ?_
                        refine done_ (done_of HT_.out (by kernel_rfl)) ?_
                        try go_wp2
                        go_ret
                        exact fin HB
                       rw [if_neg c25] at H
                       exact absurd H (by simp)
                      rw [if_neg c24] at H
                      exact absurd H (by simp)
                     rw [if_neg c23] at H
                     exact absurd H (by simp)
                    rw [if_neg c22] at H
                    exact absurd H (by simp)
                   rw [if_neg c21] at H
                   exact absurd H (by simp)
                  rw [if_neg c20] at H
                  have c20b0 : decide (x6_6 < (l0.length : Int)) = false := decide_eq_false c20
                  clear c20
                  have H' := Aside0.mk H
                  clear H
                  go_wp2
                  go_roundg k6
                  case measure => have := HK1.out; have := HJ2.out; have := HJ5.out; have := HK4.out; have := HJ15.out; have := HK6.out; omega
                  case rel => exact ⟨(x3_15), (wrap64 (x5_4 + 1)), re, re, H', ⟨by have := HK1.out; have := HJ2.out; have := HJ5.out; have := HK4.out; have := HJ15.out; have := HK6.out; omega⟩, ⟨by repeat (first | (with_reducible first | exact HB.out | apply below_alloc | apply pw_below_drewN | apply below_drew1) | exact HB.out)⟩⟩
             rw [if_neg c11] at H
             exact absurd H (by simp)
            rw [if_neg c10] at H
            exact absurd H (by simp)
           rw [if_neg c9] at H
           exact absurd H (by simp)
          rw [if_neg c8] at H
          have c8b0 : decide (x5_4 < (l0.length : Int)) = false := decide_eq_false c8
          clear c8
          have H' := Aside0.mk H
          clear H
          go_wp2
          go_roundg k4
          case measure => have := HK1.out; have := HJ2.out; have := HJ5.out; have := HK4.out; omega
          case rel => exact ⟨(x3_4), (wrap64 (x4_1 + 1)), re, re, H', ⟨by have := HK1.out; have := HJ2.out; have := HJ5.out; have := HK4.out; omega⟩, ⟨by repeat (first | (with_reducible first | exact HB.out | apply below_alloc | apply pw_below_drewN | apply below_drew1) | exact HB.out)⟩⟩
   rw [if_neg c2] at H
   have c2b0 : decide (x4_1 < (l0.length : Int)) = false := decide_eq_false c2
   clear c2
   obtain rfl := Option.some.inj H
   go_wp2
   go_ret
   exact fin HB

end Go.Proofs.Ytndedincanmaeaa.Print
