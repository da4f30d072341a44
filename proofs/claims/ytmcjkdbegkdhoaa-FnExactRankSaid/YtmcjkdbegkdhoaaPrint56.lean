-- Printed by a program of the session (mkprinter.py, over the kit's print); Lean checks it.
import Derived.Test.YtmcjkdbegkdhoaaPrint0
import Derived.Test.YtmcjkdbegkdhoaaPrint1
import Derived.Test.YtmcjkdbegkdhoaaPrint2
import Derived.Test.YtmcjkdbegkdhoaaPrint26
import Derived.Test.YtmcjkdbegkdhoaaPrint31
namespace Go.Proofs.Ytmcjkdbegkdhoaa.Print
open Go.RowKit Go.Proofs.YtmcjkdbegkdhoaaW.PrintWords Go.Proofs.YtmcjkdbegkdhoaaW.PrintLast Go.Proofs.YtmcjkdbegkdhoaaW.PrintMore
attribute [local go_sem] max2_int min2_int max_two min_two max_three min_three max_four min_four   -- for this text's walks alone
set_option linter.unusedVariables false
set_option linter.unusedSimpArgs false

attribute [local go_sem high] eqA38 eqA54
/-! ### spec_l4Rank: function 136 -/
mutual
def spec_l4Rank.l0 : Nat → List (S38) → Int → Int → Option (Int)
  | 0, _, _, _ => none
  | k + 1, x0, x3, x4 => if x4 < (x0.length : Int) then (if x3 = 0 then (if 0 ≤ x4 then (spec_l4Rank.j1 k x0 x3 x4 (!(((rd_T38 x0 x4).f0) == 0) || (!(((rd_T38 x0 x4).f1) == 0) || (!(((rd_T38 x0 x4).f2) == 0) || (!(((rd_T38 x0 x4).f3) == 0)))))) else (none)) else (spec_l4Rank.j1 k x0 x3 x4 false)) else (some x3)
def spec_l4Rank.j1 : Nat → List (S38) → Int → Int → Bool → Option (Int)
  | 0, _, _, _, _ => none
  | k + 1, x0, x3, x4, x22 => if x22 = true then (spec_l4Rank.j2 k x0 1 x4) else (spec_l4Rank.j2 k x0 x3 x4)
def spec_l4Rank.j2 : Nat → List (S38) → Int → Int → Option (Int)
  | 0, _, _, _ => none
  | k + 1, x0, x3, x4 => spec_l4Rank.l1 k x0 x3 x4 (wrap64 (x4 + 1))
def spec_l4Rank.l1 : Nat → List (S38) → Int → Int → Int → Option (Int)
  | 0, _, _, _, _ => none
  | k + 1, x0, x3, x4, x5 => if x5 < (x0.length : Int) then (if 0 ≤ x4 then (if x4 < (x0.length : Int) then (if 0 ≤ x5 then ((spec_l4Cross.f ((rd_T38 x0 x4).f0) ((rd_T38 x0 x4).f1) ((rd_T38 x0 x4).f2) ((rd_T38 x0 x4).f3) ((rd_T38 x0 x5).f0) ((rd_T38 x0 x5).f1) ((rd_T38 x0 x5).f2) ((rd_T38 x0 x5).f3)).bind fun bt890 => (if (bt890.1 == 0 && (bt890.2.1 == 0 && (bt890.2.2 == 0))) = true then (spec_l4Rank.l1 k x0 x3 x4 (wrap64 (x5 + 1))) else (if x3 < 2 then (spec_l4Rank.j4 k x0 2 x4 x5) else (spec_l4Rank.j4 k x0 x3 x4 x5)))) else (none)) else (none)) else (none)) else (spec_l4Rank.l0 k x0 x3 (wrap64 (x4 + 1)))
def spec_l4Rank.j4 : Nat → List (S38) → Int → Int → Int → Option (Int)
  | 0, _, _, _, _ => none
  | k + 1, x0, x3, x4, x5 => spec_l4Rank.l2 k x0 x3 x4 x5 (wrap64 (x5 + 1))
def spec_l4Rank.l2 : Nat → List (S38) → Int → Int → Int → Int → Option (Int)
  | 0, _, _, _, _, _ => none
  | k + 1, x0, x3, x4, x5, x6 => if x6 < (x0.length : Int) then (if 0 ≤ x4 then (if x4 < (x0.length : Int) then (if 0 ≤ x5 then (if x5 < (x0.length : Int) then (if 0 ≤ x6 then ((spec_l4Det3.f ((rd_T38 x0 x4).f0) ((rd_T38 x0 x4).f1) ((rd_T38 x0 x4).f2) ((rd_T38 x0 x4).f3) ((rd_T38 x0 x5).f0) ((rd_T38 x0 x5).f1) ((rd_T38 x0 x5).f2) ((rd_T38 x0 x5).f3) ((rd_T38 x0 x6).f0) ((rd_T38 x0 x6).f1) ((rd_T38 x0 x6).f2) ((rd_T38 x0 x6).f3)).bind fun t896 => (if t896 = 0 then (spec_l4Rank.l2 k x0 x3 x4 x5 (wrap64 (x6 + 1))) else (some 3))) else (none)) else (none)) else (none)) else (none)) else (none)) else (spec_l4Rank.l1 k x0 x3 x4 (wrap64 (x5 + 1)))
end
def spec_l4Rank.f (k : Nat) (l0 : List (S38)) : Option (Int) := spec_l4Rank.l0 k l0 0 0
theorem spec_l4Rank.mono_l : ∀ k, (∀ y0 y1 y2, LeO (spec_l4Rank.l0 k y0 y1 y2) (spec_l4Rank.l0 (k + 1) y0 y1 y2)) ∧ (∀ y0 y1 y2 y3, LeO (spec_l4Rank.j1 k y0 y1 y2 y3) (spec_l4Rank.j1 (k + 1) y0 y1 y2 y3)) ∧ (∀ y0 y1 y2, LeO (spec_l4Rank.j2 k y0 y1 y2) (spec_l4Rank.j2 (k + 1) y0 y1 y2)) ∧ (∀ y0 y1 y2 y3, LeO (spec_l4Rank.l1 k y0 y1 y2 y3) (spec_l4Rank.l1 (k + 1) y0 y1 y2 y3)) ∧ (∀ y0 y1 y2 y3, LeO (spec_l4Rank.j4 k y0 y1 y2 y3) (spec_l4Rank.j4 (k + 1) y0 y1 y2 y3)) ∧ (∀ y0 y1 y2 y3 y4, LeO (spec_l4Rank.l2 k y0 y1 y2 y3 y4) (spec_l4Rank.l2 (k + 1) y0 y1 y2 y3 y4))
  | 0 => ⟨fun _ _ _ r h => by simp [spec_l4Rank.l0] at h, fun _ _ _ _ r h => by simp [spec_l4Rank.j1] at h, fun _ _ _ r h => by simp [spec_l4Rank.j2] at h, fun _ _ _ _ r h => by simp [spec_l4Rank.l1] at h, fun _ _ _ _ r h => by simp [spec_l4Rank.j4] at h, fun _ _ _ _ _ r h => by simp [spec_l4Rank.l2] at h⟩
  | k + 1 => by
    obtain ⟨ih0, ih1, ih2, ih3, ih4, ih5⟩ := spec_l4Rank.mono_l k
    refine ⟨?_, ?_, ?_, ?_, ?_, ?_⟩
    · intro y0 y1 y2
      unfold spec_l4Rank.l0
      repeat' first
      | (with_reducible exact ih0 _ _ _)
      | (with_reducible exact ih1 _ _ _ _)
      | (with_reducible exact ih2 _ _ _)
      | (with_reducible exact ih3 _ _ _ _)
      | (with_reducible exact ih4 _ _ _ _)
      | (with_reducible exact ih5 _ _ _ _ _)
      | (with_reducible exact LeO.refl _)
      | (with_reducible exact LeO.none _)
      | (with_reducible refine LeO.ite ?_ ?_)
      | (with_reducible refine LeO.bind ?_ (fun _ => ?_))
      | exact ih0 _ _ _
      | exact ih1 _ _ _ _
      | exact ih2 _ _ _
      | exact ih3 _ _ _ _
      | exact ih4 _ _ _ _
      | exact ih5 _ _ _ _ _
      | exact LeO.none _
      | refine LeO.ite ?_ ?_
      | refine LeO.bind ?_ (fun _ => ?_)
    · intro y0 y1 y2 y3
      unfold spec_l4Rank.j1
      repeat' first
      | (with_reducible exact ih0 _ _ _)
      | (with_reducible exact ih1 _ _ _ _)
      | (with_reducible exact ih2 _ _ _)
      | (with_reducible exact ih3 _ _ _ _)
      | (with_reducible exact ih4 _ _ _ _)
      | (with_reducible exact ih5 _ _ _ _ _)
      | (with_reducible exact LeO.refl _)
      | (with_reducible exact LeO.none _)
      | (with_reducible refine LeO.ite ?_ ?_)
      | (with_reducible refine LeO.bind ?_ (fun _ => ?_))
      | exact ih0 _ _ _
      | exact ih1 _ _ _ _
      | exact ih2 _ _ _
      | exact ih3 _ _ _ _
      | exact ih4 _ _ _ _
      | exact ih5 _ _ _ _ _
      | exact LeO.none _
      | refine LeO.ite ?_ ?_
      | refine LeO.bind ?_ (fun _ => ?_)
    · intro y0 y1 y2
      unfold spec_l4Rank.j2
      repeat' first
      | (with_reducible exact ih0 _ _ _)
      | (with_reducible exact ih1 _ _ _ _)
      | (with_reducible exact ih2 _ _ _)
      | (with_reducible exact ih3 _ _ _ _)
      | (with_reducible exact ih4 _ _ _ _)
      | (with_reducible exact ih5 _ _ _ _ _)
      | (with_reducible exact LeO.refl _)
      | (with_reducible exact LeO.none _)
      | (with_reducible refine LeO.ite ?_ ?_)
      | (with_reducible refine LeO.bind ?_ (fun _ => ?_))
      | exact ih0 _ _ _
      | exact ih1 _ _ _ _
      | exact ih2 _ _ _
      | exact ih3 _ _ _ _
      | exact ih4 _ _ _ _
      | exact ih5 _ _ _ _ _
      | exact LeO.none _
      | refine LeO.ite ?_ ?_
      | refine LeO.bind ?_ (fun _ => ?_)
    · intro y0 y1 y2 y3
      unfold spec_l4Rank.l1
      repeat' first
      | (with_reducible exact ih0 _ _ _)
      | (with_reducible exact ih1 _ _ _ _)
      | (with_reducible exact ih2 _ _ _)
      | (with_reducible exact ih3 _ _ _ _)
      | (with_reducible exact ih4 _ _ _ _)
      | (with_reducible exact ih5 _ _ _ _ _)
      | (with_reducible exact LeO.refl _)
      | (with_reducible exact LeO.none _)
      | (with_reducible refine LeO.ite ?_ ?_)
      | (with_reducible refine LeO.bind ?_ (fun _ => ?_))
      | exact ih0 _ _ _
      | exact ih1 _ _ _ _
      | exact ih2 _ _ _
      | exact ih3 _ _ _ _
      | exact ih4 _ _ _ _
      | exact ih5 _ _ _ _ _
      | exact LeO.none _
      | refine LeO.ite ?_ ?_
      | refine LeO.bind ?_ (fun _ => ?_)
    · intro y0 y1 y2 y3
      unfold spec_l4Rank.j4
      repeat' first
      | (with_reducible exact ih0 _ _ _)
      | (with_reducible exact ih1 _ _ _ _)
      | (with_reducible exact ih2 _ _ _)
      | (with_reducible exact ih3 _ _ _ _)
      | (with_reducible exact ih4 _ _ _ _)
      | (with_reducible exact ih5 _ _ _ _ _)
      | (with_reducible exact LeO.refl _)
      | (with_reducible exact LeO.none _)
      | (with_reducible refine LeO.ite ?_ ?_)
      | (with_reducible refine LeO.bind ?_ (fun _ => ?_))
      | exact ih0 _ _ _
      | exact ih1 _ _ _ _
      | exact ih2 _ _ _
      | exact ih3 _ _ _ _
      | exact ih4 _ _ _ _
      | exact ih5 _ _ _ _ _
      | exact LeO.none _
      | refine LeO.ite ?_ ?_
      | refine LeO.bind ?_ (fun _ => ?_)
    · intro y0 y1 y2 y3 y4
      unfold spec_l4Rank.l2
      repeat' first
      | (with_reducible exact ih0 _ _ _)
      | (with_reducible exact ih1 _ _ _ _)
      | (with_reducible exact ih2 _ _ _)
      | (with_reducible exact ih3 _ _ _ _)
      | (with_reducible exact ih4 _ _ _ _)
      | (with_reducible exact ih5 _ _ _ _ _)
      | (with_reducible exact LeO.refl _)
      | (with_reducible exact LeO.none _)
      | (with_reducible refine LeO.ite ?_ ?_)
      | (with_reducible refine LeO.bind ?_ (fun _ => ?_))
      | exact ih0 _ _ _
      | exact ih1 _ _ _ _
      | exact ih2 _ _ _
      | exact ih3 _ _ _ _
      | exact ih4 _ _ _ _
      | exact ih5 _ _ _ _ _
      | exact LeO.none _
      | refine LeO.ite ?_ ?_
      | refine LeO.bind ?_ (fun _ => ?_)
theorem spec_l4Rank.mono : ∀ a0 k, LeO (spec_l4Rank.f k a0) (spec_l4Rank.f (k + 1) a0) := by
  intro a0 k
  obtain ⟨ih0, ih1, ih2, ih3, ih4, ih5⟩ := spec_l4Rank.mono_l k
  unfold spec_l4Rank.f
  repeat' first
      | (with_reducible exact ih0 _ _ _)
      | (with_reducible exact ih1 _ _ _ _)
      | (with_reducible exact ih2 _ _ _)
      | (with_reducible exact ih3 _ _ _ _)
      | (with_reducible exact ih4 _ _ _ _)
      | (with_reducible exact ih5 _ _ _ _ _)
      | (with_reducible exact LeO.refl _)
      | (with_reducible exact LeO.none _)
      | (with_reducible refine LeO.ite ?_ ?_)
      | (with_reducible refine LeO.bind ?_ (fun _ => ?_))
      | exact ih0 _ _ _
      | exact ih1 _ _ _ _
      | exact ih2 _ _ _
      | exact ih3 _ _ _ _
      | exact ih4 _ _ _ _
      | exact ih5 _ _ _ _ _
      | exact LeO.none _
      | refine LeO.ite ?_ ?_
      | refine LeO.bind ?_ (fun _ => ?_)
def spec_l4Rank.T10 : Bool × List (List Nat × List Nat) := (true, [([], []), ([], []), ([0, 1], [0, 1]), ([2], [2]), ([], []), ([], []), ([4, 5], [4, 5]), ([6], [6]), ([3, 7], [3, 7]), ([], []), ([8, 9], [8, 9])])
def spec_l4Rank.B10 : List Nat := [0, 0, 3, 7, 0, 0, 48, 112, 255, 0, 1023]
theorem spec_l4Rank.tab10 : rtab .any (opsOf Try.f136 10) = spec_l4Rank.T10 := by kernel_rfl
theorem spec_l4Rank.bits10 : waitsOk spec_l4Rank.T10.2 spec_l4Rank.B10 = true := by kernel_rfl
def spec_l4Rank.T16 : Bool × List (List Nat × List Nat) := (true, [([], []), ([], []), ([0, 1], [0, 1]), ([2], [2]), ([], []), ([], []), ([4, 5], [4, 5]), ([6], [6]), ([], []), ([], []), ([8, 9], [8, 9]), ([10], [10]), ([3, 7, 11], [3, 7, 11]), ([12], [12])])
def spec_l4Rank.B16 : List Nat := [0, 0, 3, 7, 0, 0, 48, 112, 0, 0, 768, 1792, 4095, 8191]
theorem spec_l4Rank.tab16 : rtab .any (opsOf Try.f136 16) = spec_l4Rank.T16 := by kernel_rfl
theorem spec_l4Rank.bits16 : waitsOk spec_l4Rank.T16.2 spec_l4Rank.B16 = true := by kernel_rfl
set_option maxHeartbeats 8000000 in
set_option maxRecDepth 100000 in
theorem spec_l4Rank.calls (k : Nat) (A0 : Option Addr) (c0 : Nat) (l0 : List (S38)) (r : Int) (w : World) (hr0 : Kd.C k38 w A0 l0.length l0) (hc0 : l0.length ≤ c0) (h : spec_l4Rank.f k l0 = some r) :
    Calls Try.prog 136 #[.slice A0 l0.length c0] w fun e w' => e = .returned (.int .i64 r) ∧ Below w.heap.size w w' := by
  have hu38 := Try.underlying38
  have hu54 := Try.underlying54
  have HR0 := Aside0.mk hr0
  have HC0 := Aside0.mk hc0
  clear hr0 hc0
  have HB := Aside0.mk (Below.refl w.heap.size w)
  have H : (spec_l4Rank.l0 k l0 0 0) = some r := h
  clear h
  have H' := Aside0.mk H
  clear H
  go_enter Try.func136, Try.ntmps136
  go_wp2
  go_loopg [3, 4] k (fun kq v3 v4 w' => ∃ (x3_1 : Int) (x4_1 : Int), v3 = .int .i64 x3_1 ∧ v4 = .int .i64 x4_1 ∧ Aside0 (spec_l4Rank.l0 kq l0 x3_1 x4_1 = some r) ∧ Aside0 (kq ≤ k) ∧ Aside0 (Below w.heap.size w w'))
  case atStart => exact ⟨(0), (0), (by first | rfl | (simp; done) | (simp [*]; done) | (simp [wrap64]; done)), (by first | rfl | (simp; done) | (simp [*]; done) | (simp [wrap64]; done)), H', ⟨Nat.le_refl _⟩, ⟨by repeat (first | (with_reducible first | exact HB.out | apply below_alloc | apply pw_below_drewN | apply below_drew1) | exact HB.out)⟩⟩
  case round =>
    clear H'
    try clear c1
    obtain ⟨x3_1, x4_1, rfl, rfl, HA, HK1, HB⟩ := hrel
    cases gk with
    | zero => exact absurd HA.out (by simp [spec_l4Rank.l0])
    | succ k1 =>
      have H := HA.out
      clear HA
      simp only [spec_l4Rank.l0] at H
      by_cases c2 : x4_1 < (l0.length : Int)
      · rw [if_pos c2] at H
        have c2b0 : decide (x4_1 < (l0.length : Int)) = true := decide_eq_true c2
        clear c2
        have HC3 := Aside0.mk H
        clear H
        go_upto_region 5 with (fail)
        go_cut [22] (fun v22 wc => ∃ (kq : Nat) (x22_2 : Bool), v22 = .bool x22_2 ∧ Aside0 (spec_l4Rank.j1 kq l0 x3_1 x4_1 x22_2 = some r) ∧ Aside0 (kq ≤ k1) ∧ Aside0 (Below w.heap.size w wc))
        case first =>
          have H := HC3.out
          clear HC3
          by_cases c4 : x3_1 = 0
          · rw [if_pos c4] at H
            have c4b0 : (x3_1 == 0) = true := beq_iff_eq.mpr c4
            have c4b1 : (x3_1 != 0) = false := bne_eq_false_iff_eq.mpr c4
            clear c4
            (first | rw [c4b0] | (simp only [i64_w, i32_w]; rw [c4b0]) | skip)
            by_cases c5 : 0 ≤ x4_1
            · rw [if_pos c5] at H
              have c5b0 : decide (0 ≤ x4_1) = true := decide_eq_true c5
              clear c5
              have H' := Aside0.mk H
              clear H
              have p887 : 0 ≤ (x4_1 : Int) := of_decide_eq_true (by first | (with_reducible assumption) | assumption)
              have q887 : x4_1 < (l0.length : Int) := of_decide_eq_true (by first | (with_reducible assumption) | assumption)
              obtain ⟨ad887, e887, hx887_0, hx887_1, hx887_2, hx887_3⟩ := at_T38 HR0.out x4_1 p887 q887
              cases e887
              replace hx887_0 := (HB.out.cell (World.block_lt_of_cell? w _ hx887_0)).trans hx887_0
              replace hx887_1 := (HB.out.cell (World.block_lt_of_cell? w _ hx887_1)).trans hx887_1
              replace hx887_2 := (HB.out.cell (World.block_lt_of_cell? w _ hx887_2)).trans hx887_2
              replace hx887_3 := (HB.out.cell (World.block_lt_of_cell? w _ hx887_3)).trans hx887_3
              replace p887 := eq_true p887
              replace q887 := eq_true q887
              go_wp2
              go_meet
              case rel => exact ⟨_, ((!(((rd_T38 l0 x4_1).f0) == 0) || (!(((rd_T38 l0 x4_1).f1) == 0) || (!(((rd_T38 l0 x4_1).f2) == 0) || (!(((rd_T38 l0 x4_1).f3) == 0)))))), (by first | rfl | (simp; done) | (simp [*]; done) | (simp [wrap64]; done)), H', ⟨by have := HK1.out; first | omega | exact Nat.le_refl _⟩, ⟨by repeat (first | (with_reducible first | exact HB.out | apply below_alloc | apply pw_below_drewN | apply below_drew1) | exact HB.out)⟩⟩
            · rw [if_neg c5] at H
              exact absurd H (by simp)
          · rw [if_neg c4] at H
            have c4b0 : (x3_1 == 0) = false := beq_eq_false_iff_ne.mpr c4
            have c4b1 : (x3_1 != 0) = true := bne_iff_ne.mpr c4
            (first | rw [c4b0] | (simp only [i64_w, i32_w]; rw [c4b0]) | skip)
            have H' := Aside0.mk H
            clear H
            go_wp2
            go_meet
            case rel => exact ⟨_, (false), (by first | rfl | (simp; done) | (simp [*]; done) | (simp [wrap64]; done)), H', ⟨by have := HK1.out; first | omega | exact Nat.le_refl _⟩, ⟨by repeat (first | (with_reducible first | exact HB.out | apply below_alloc | apply pw_below_drewN | apply below_drew1) | exact HB.out)⟩⟩
        case rest =>
          clear HC3
          try clear c1
          try clear c2
          try clear c2b0
          try clear p2
          try clear c4
          try clear c4b0
          try clear c4b1
          try clear c5
          try clear c5b0
          try clear hx887_0
          try clear hx887_1
          try clear hx887_2
          try clear hx887_3
          try clear p887
          try clear q887
          obtain ⟨kq, x22_2, rfl, HA, HJ2, HB⟩ := hcut
          cases kq with
          | zero => exact absurd HA.out (by simp [spec_l4Rank.j1])
          | succ kj2 =>
            have H := HA.out
            clear HA
            simp only [spec_l4Rank.j1] at H
            have HC6 := Aside0.mk H
            clear H
            go_upto_if 22 with (fail)
            go_cut [3] (fun v3 wc => ∃ (kq : Nat) (x3_5 : Int), v3 = .int .i64 x3_5 ∧ Aside0 (spec_l4Rank.j2 kq l0 x3_5 x4_1 = some r) ∧ Aside0 (kq ≤ kj2) ∧ Aside0 (Below w.heap.size w wc))
            case first =>
              have H := HC6.out
              clear HC6
              by_cases c7 : x22_2 = true
              · subst c7
                have H1 : (spec_l4Rank.j2 kj2 l0 1 x4_1) = some r := by rw [if_pos rfl] at H; exact H
                clear H
                have H := H1
                clear H1
                have H' := Aside0.mk H
                clear H
                go_wp2
                go_meet
                case rel => exact ⟨_, (1), (by first | rfl | (simp; done) | (simp [*]; done) | (simp [wrap64]; done)), H', ⟨by have := HK1.out; have := HJ2.out; first | omega | exact Nat.le_refl _⟩, ⟨by repeat (first | (with_reducible first | exact HB.out | apply below_alloc | apply pw_below_drewN | apply below_drew1) | exact HB.out)⟩⟩
              · replace c7 := Bool.eq_false_iff.mpr c7
                subst c7
                have H1 : (spec_l4Rank.j2 kj2 l0 x3_1 x4_1) = some r := by rw [if_neg (show ¬ (false = true) by decide)] at H; exact H
                clear H
                have H := H1
                clear H1
                have H' := Aside0.mk H
                clear H
                go_wp2
                go_meet
                case rel => exact ⟨_, (x3_1), (by first | rfl | (simp; done) | (simp [*]; done) | (simp [wrap64]; done)), H', ⟨by have := HK1.out; have := HJ2.out; first | omega | exact Nat.le_refl _⟩, ⟨by repeat (first | (with_reducible first | exact HB.out | apply below_alloc | apply pw_below_drewN | apply below_drew1) | exact HB.out)⟩⟩
            case rest =>
              clear HC6
              try clear c1
              try clear c2
              try clear c2b0
              try clear p2
              try clear c4
              try clear c4b0
              try clear c4b1
              try clear c5
              try clear c5b0
              try clear p6
              try clear c7
              try clear hx887_0
              try clear hx887_1
              try clear hx887_2
              try clear hx887_3
              try clear p2
              try clear p887
              try clear q887
              obtain ⟨kq, x3_5, rfl, HA, HJ5, HB⟩ := hcut
              cases kq with
              | zero => exact absurd HA.out (by simp [spec_l4Rank.j2])
              | succ kj5 =>
                have H := HA.out
                clear HA
                simp only [spec_l4Rank.j2] at H
                have H' := Aside0.mk H
                clear H
                go_wp2
                go_loopg [3, 5] kj5 (fun kq v3 v5 w' => ∃ (x3_4 : Int) (x5_4 : Int), v3 = .int .i64 x3_4 ∧ v5 = .int .i64 x5_4 ∧ Aside0 (spec_l4Rank.l1 kq l0 x3_4 x4_1 x5_4 = some r) ∧ Aside0 (kq ≤ kj5) ∧ Aside0 (Below w.heap.size w w'))
                case atStart => exact ⟨(x3_5), (wrap64 (x4_1 + 1)), (by first | rfl | (simp; done) | (simp [*]; done) | (simp [wrap64]; done)), (by first | rfl | (simp; done) | (simp [*]; done) | (simp [wrap64]; done)), H', ⟨Nat.le_refl _⟩, ⟨by repeat (first | (with_reducible first | exact HB.out | apply below_alloc | apply pw_below_drewN | apply below_drew1) | exact HB.out)⟩⟩
                case round =>
                  clear H'
                  try clear c1
                  try clear c2
                  try clear c2b0
                  try clear p2
                  try clear c4
                  try clear c4b0
                  try clear c4b1
                  try clear c5
                  try clear c5b0
                  try clear p6
                  try clear c7
                  try clear hx887_0
                  try clear hx887_1
                  try clear hx887_2
                  try clear hx887_3
                  try clear p2
                  try clear p6
                  try clear p887
                  try clear q887
                  obtain ⟨x3_4, x5_4, rfl, rfl, HA, HK4, HB⟩ := hrel
                  cases gk with
                  | zero => exact absurd HA.out (by simp [spec_l4Rank.l1])
                  | succ k4 =>
                    have H := HA.out
                    clear HA
                    simp only [spec_l4Rank.l1] at H
                    by_cases c8 : x5_4 < (l0.length : Int)
                    · rw [if_pos c8] at H
                      have c8b0 : decide (x5_4 < (l0.length : Int)) = true := decide_eq_true c8
                      clear c8
                      by_cases c9 : 0 ≤ x4_1
                      · rw [if_pos c9] at H
                        have c9b0 : decide (0 ≤ x4_1) = true := decide_eq_true c9
                        clear c9
                        by_cases c10 : x4_1 < (l0.length : Int)
                        · rw [if_pos c10] at H
                          have c10b0 : decide (x4_1 < (l0.length : Int)) = true := decide_eq_true c10
                          clear c10
                          by_cases c11 : 0 ≤ x5_4
                          · rw [if_pos c11] at H
                            have c11b0 : decide (0 ≤ x5_4) = true := decide_eq_true c11
                            clear c11
                            replace H := Option.bind_eq_some_iff.mp H
                            obtain ⟨⟨t890, t891, t892⟩, A120, H⟩ := H
                            replace H : (if (t890 == 0 && (t891 == 0 && (t892 == 0))) = true then (spec_l4Rank.l1 k4 l0 x3_4 x4_1 (wrap64 (x5_4 + 1))) else (if x3_4 < 2 then (spec_l4Rank.j4 k4 l0 2 x4_1 x5_4) else (spec_l4Rank.j4 k4 l0 x3_4 x4_1 x5_4))) = some r := H
                            have A12 := Aside0.mk A120
                            clear A120
                            by_cases c13 : (t890 == 0 && (t891 == 0 && (t892 == 0))) = true
                            · rw [if_pos c13] at H
                              have c13b0 : (t890 == 0 && (t891 == 0 && (t892 == 0))) = true := c13
                              (try (have c13b1 : decide (t890 = 0 && (t891 == 0 && (t892 == 0))) = true := by simpa using c13))
                              (try (have c13b2 : (t890 == 0 && (t891 == 0 && (t892 == 0))) = true := by simpa using c13))
                              clear c13
                              have H' := Aside0.mk H
                              clear H
                              try go_wp2
                              have n0_ := Aside0.mk (below_drew1 HB.out)
                              clear HB
                              have HB := n0_
                              clear n0_
                              have p888 : 0 ≤ (x4_1 : Int) := of_decide_eq_true (by first | (with_reducible assumption) | assumption)
                              have q888 : x4_1 < (l0.length : Int) := of_decide_eq_true (by first | (with_reducible assumption) | assumption)
                              obtain ⟨ad888, e888, hx888_0, hx888_1, hx888_2, hx888_3⟩ := at_T38 HR0.out x4_1 p888 q888
                              have hw888_3 := hx888_3
                              have hw888_2 := hx888_2
                              have hw888_1 := hx888_1
                              have hw888_0 := hx888_0
                              cases e888
                              replace hx888_0 := (HB.out.cell (World.block_lt_of_cell? w _ hx888_0)).trans hx888_0
                              replace hx888_1 := (HB.out.cell (World.block_lt_of_cell? w _ hx888_1)).trans hx888_1
                              replace hx888_2 := (HB.out.cell (World.block_lt_of_cell? w _ hx888_2)).trans hx888_2
                              replace hx888_3 := (HB.out.cell (World.block_lt_of_cell? w _ hx888_3)).trans hx888_3
                              replace p888 := eq_true p888
                              replace q888 := eq_true q888
                              have p889 : 0 ≤ (x5_4 : Int) := of_decide_eq_true (by first | (with_reducible assumption) | assumption)
                              have q889 : x5_4 < (l0.length : Int) := of_decide_eq_true (by first | (with_reducible assumption) | assumption)
                              obtain ⟨ad889, e889, hx889_0, hx889_1, hx889_2, hx889_3⟩ := at_T38 HR0.out x5_4 p889 q889
                              have hw889_3 := hx889_3
                              have hw889_2 := hx889_2
                              have hw889_1 := hx889_1
                              have hw889_0 := hx889_0
                              obtain rfl : ad888 = ad889 := (by injection e889)
                              replace hx889_0 := (HB.out.cell (World.block_lt_of_cell? w _ hx889_0)).trans hx889_0
                              replace hx889_1 := (HB.out.cell (World.block_lt_of_cell? w _ hx889_1)).trans hx889_1
                              replace hx889_2 := (HB.out.cell (World.block_lt_of_cell? w _ hx889_2)).trans hx889_2
                              replace hx889_3 := (HB.out.cell (World.block_lt_of_cell? w _ hx889_3)).trans hx889_3
                              replace p889 := eq_true p889
                              replace q889 := eq_true q889
                              refine start_ (n := 11) (S := fun w' => w'.cell? (ad888.add ((x4_1).toNat * 4)) = some (.int .i64 ((rd_T38 l0 x4_1).f0)) ∧ w'.cell? ⟨(ad888.add ((x4_1).toNat * 4)).block, (ad888.add ((x4_1).toNat * 4)).off + 1, none⟩ = some (.int .i64 ((rd_T38 l0 x4_1).f1)) ∧ w'.cell? ⟨(ad888.add ((x4_1).toNat * 4)).block, (ad888.add ((x4_1).toNat * 4)).off + 2, none⟩ = some (.int .i64 ((rd_T38 l0 x4_1).f2)) ∧ w'.cell? ⟨(ad888.add ((x4_1).toNat * 4)).block, (ad888.add ((x4_1).toNat * 4)).off + 3, none⟩ = some (.int .i64 ((rd_T38 l0 x4_1).f3)) ∧ w'.cell? (ad888.add ((x5_4).toNat * 4)) = some (.int .i64 ((rd_T38 l0 x5_4).f0)) ∧ w'.cell? ⟨(ad888.add ((x5_4).toNat * 4)).block, (ad888.add ((x5_4).toNat * 4)).off + 1, none⟩ = some (.int .i64 ((rd_T38 l0 x5_4).f1)) ∧ w'.cell? ⟨(ad888.add ((x5_4).toNat * 4)).block, (ad888.add ((x5_4).toNat * 4)).off + 2, none⟩ = some (.int .i64 ((rd_T38 l0 x5_4).f2)) ∧ w'.cell? ⟨(ad888.add ((x5_4).toNat * 4)).block, (ad888.add ((x5_4).toNat * 4)).off + 3, none⟩ = some (.int .i64 ((rd_T38 l0 x5_4).f3))) (ds := []) #[false, false, false, false, false, false, false, false, false, false, false] (by kernel_rfl) rfl rfl ⟨((HB.out.cell (World.block_lt_of_cell? w _ hw888_0)).trans hw888_0), ((HB.out.cell (World.block_lt_of_cell? w _ hw888_1)).trans hw888_1), ((HB.out.cell (World.block_lt_of_cell? w _ hw888_2)).trans hw888_2), ((HB.out.cell (World.block_lt_of_cell? w _ hw888_3)).trans hw888_3), ((HB.out.cell (World.block_lt_of_cell? w _ hw889_0)).trans hw889_0), ((HB.out.cell (World.block_lt_of_cell? w _ hw889_1)).trans hw889_1), ((HB.out.cell (World.block_lt_of_cell? w _ hw889_2)).trans hw889_2), ((HB.out.cell (World.block_lt_of_cell? w _ hw889_3)).trans hw889_3)⟩ (fun hHeld => ?_); refine with_tabW spec_l4Rank.tab10 spec_l4Rank.bits10 (fun HT_ HW_ => ?_)
                              generalize wr.drew = w14 at HB hx888_0 hx888_1 hx888_2 hx888_3 hx889_0 hx889_1 hx889_2 hx889_3 hHeld ⊢
                              refine pure_ (i := 0) (N := some 31) (v := ?_) (a' := ?_) #[true, false, false, false, false, false, false, false, false, false, false] rfl rfl (any_of HT_.out (by kernel_rfl)) (fun _ _ _ h => h) (Or.inl ⟨by rfl, ?_⟩) ?_ ?_
                              rotate_left
                              · intro w'
                                go_simp
                                with_reducible rfl
                              rotate_left
                              · simp only [Act.put, List.setIfInBounds_toArray, List.set_cons_zero, List.set_cons_succ, i64_w, i32_w]
                                rfl
                              refine pure_ (i := 1) (N := some 32) (v := ?_) (a' := ?_) #[true, true, false, false, false, false, false, false, false, false, false] rfl rfl (any_of HT_.out (by kernel_rfl)) (fun _ _ _ h => h) (Or.inl ⟨by rfl, ?_⟩) ?_ ?_
                              rotate_left
                              · intro w'
                                go_simp
                                with_reducible rfl
                              rotate_left
                              · simp only [Act.put, List.setIfInBounds_toArray, List.set_cons_zero, List.set_cons_succ, i64_w, i32_w]
                                rfl
                              refine pure_ (i := 2) (N := some 33) (v := ?_) (a' := ?_) #[true, true, true, false, false, false, false, false, false, false, false] rfl rfl (any_of HT_.out (by kernel_rfl)) (fun _ _ _ h => h) (Or.inl ⟨by rfl, ?_⟩) ?_ ?_
                              rotate_left
                              · intro w'
                                go_simp
                                with_reducible rfl
                              rotate_left
                              · simp only [Act.put, List.setIfInBounds_toArray, List.set_cons_zero, List.set_cons_succ, i64_w, i32_w]
                                rfl
                              refine pure_ (i := 4) (N := some 35) (v := ?_) (a' := ?_) #[true, true, true, false, true, false, false, false, false, false, false] rfl rfl (any_of HT_.out (by kernel_rfl)) (fun _ _ _ h => h) (Or.inl ⟨by rfl, ?_⟩) ?_ ?_
                              rotate_left
                              · intro w'
                                go_simp
                                with_reducible rfl
                              rotate_left
                              · simp only [Act.put, List.setIfInBounds_toArray, List.set_cons_zero, List.set_cons_succ, i64_w, i32_w]
                                rfl
                              refine pure_ (i := 5) (N := some 36) (v := ?_) (a' := ?_) #[true, true, true, false, true, true, false, false, false, false, false] rfl rfl (any_of HT_.out (by kernel_rfl)) (fun _ _ _ h => h) (Or.inl ⟨by rfl, ?_⟩) ?_ ?_
                              rotate_left
                              · intro w'
                                go_simp
                                with_reducible rfl
                              rotate_left
                              · simp only [Act.put, List.setIfInBounds_toArray, List.set_cons_zero, List.set_cons_succ, i64_w, i32_w]
                                rfl
                              refine pure_ (i := 6) (N := some 37) (v := ?_) (a' := ?_) #[true, true, true, false, true, true, true, false, false, false, false] rfl rfl (any_of HT_.out (by kernel_rfl)) (fun _ _ _ h => h) (Or.inl ⟨by rfl, ?_⟩) ?_ ?_
                              rotate_left
                              · intro w'
                                go_simp
                                with_reducible rfl
                              rotate_left
                              · simp only [Act.put, List.setIfInBounds_toArray, List.set_cons_zero, List.set_cons_succ, i64_w, i32_w]
                                rfl
                              refine pure_ (i := 9) (N := some 40) (v := ?_) (a' := ?_) #[true, true, true, false, true, true, true, false, false, true, false] rfl rfl (any_of HT_.out (by kernel_rfl)) (fun _ _ _ h => h) (Or.inl ⟨by rfl, ?_⟩) ?_ ?_
                              rotate_left
                              · intro w'
                                go_simp
                                with_reducible rfl
                              rotate_left
                              · simp only [Act.put, List.setIfInBounds_toArray, List.set_cons_zero, List.set_cons_succ, i64_w, i32_w]
                                rfl
                              refine take_ (i := 3) (N := some 34) (v := ?_) (a' := ?_) #[true, true, true, true, true, true, true, false, false, true, false] rfl rfl (take_ofW HT_.out HW_.out (by kernel_rfl)) (fun _ _ _ h => h) (Or.inl ⟨by rfl, ?_⟩) hHeld ?_ ?_
                              rotate_left
                              · rintro w' ⟨s0, s1, s2, s3, s4, s5, s6, s7⟩
                                go_simp
                                with_reducible rfl
                              rotate_left
                              · simp only [Act.put, List.setIfInBounds_toArray, List.set_cons_zero, List.set_cons_succ, i64_w, i32_w]
                                rfl
                              refine take_ (i := 7) (N := some 38) (v := ?_) (a' := ?_) #[true, true, true, true, true, true, true, true, false, true, false] rfl rfl (take_ofW HT_.out HW_.out (by kernel_rfl)) (fun _ _ _ h => h) (Or.inl ⟨by rfl, ?_⟩) hHeld ?_ ?_
                              rotate_left
                              · rintro w' ⟨s0, s1, s2, s3, s4, s5, s6, s7⟩
                                go_simp
                                with_reducible rfl
                              rotate_left
                              · simp only [Act.put, List.setIfInBounds_toArray, List.set_cons_zero, List.set_cons_succ, i64_w, i32_w]
                                rfl
                              refine one_ (i := 8) (N := some 39) #[true, true, true, true, true, true, true, true, true, true, false] rfl rfl (one_of HT_.out (by kernel_rfl)) (by decide) (fun K hK => ?_)
                              refine goes_ Try.func114 (by kernel_rfl) rfl #[.agg #[.int .i64 ((rd_T38 l0 x4_1).f0), .int .i64 ((rd_T38 l0 x4_1).f1), .int .i64 ((rd_T38 l0 x4_1).f2), .int .i64 ((rd_T38 l0 x4_1).f3)], .agg #[.int .i64 ((rd_T38 l0 x5_4).f0), .int .i64 ((rd_T38 l0 x5_4).f1), .int .i64 ((rd_T38 l0 x5_4).f2), .int .i64 ((rd_T38 l0 x5_4).f3)]] (by rfl) rfl rfl (by (try simp only [List.map_toArray, List.map_cons, List.map_nil]); first | done | rfl | (simp only [List.length_drop, List.length_take]; rfl)) ?_
                              with_reducible refine (spec_l4Cross.calls ((rd_T38 l0 x4_1).f0) ((rd_T38 l0 x4_1).f1) ((rd_T38 l0 x4_1).f2) ((rd_T38 l0 x4_1).f3) ((rd_T38 l0 x5_4).f0) ((rd_T38 l0 x5_4).f1) ((rd_T38 l0 x5_4).f2) ((rd_T38 l0 x5_4).f3) t890 t891 t892 _ A12.out).mono ?_
                              rintro e w15 ⟨rfl, hb⟩
                              refine ⟨_, rfl, ?_⟩
                              have n0_ := Aside0.mk (below_step (by repeat (first | (with_reducible first | exact HB.out | apply below_alloc | apply pw_below_drewN | apply below_drew1) | exact HB.out)) hb)
                              clear HB
                              have HB := n0_
                              clear n0_
                              (try clear hb)
                              (try clear hb2)
                              (try clear hk)
                              (try clear hi)
                              refine hK.out _ _ ⟨((HB.out.cell (World.block_lt_of_cell? w _ hw888_0)).trans hw888_0), ((HB.out.cell (World.block_lt_of_cell? w _ hw888_1)).trans hw888_1), ((HB.out.cell (World.block_lt_of_cell? w _ hw888_2)).trans hw888_2), ((HB.out.cell (World.block_lt_of_cell? w _ hw888_3)).trans hw888_3), ((HB.out.cell (World.block_lt_of_cell? w _ hw889_0)).trans hw889_0), ((HB.out.cell (World.block_lt_of_cell? w _ hw889_1)).trans hw889_1), ((HB.out.cell (World.block_lt_of_cell? w _ hw889_2)).trans hw889_2), ((HB.out.cell (World.block_lt_of_cell? w _ hw889_3)).trans hw889_3)⟩ (fun hHeld => ?_)
                              clear hK K
                              refine norm_ (a' := ?_) ?_ ?_
                              rotate_left
                              · show Act.put _ (some 39) _ = _
                                simp only [Act.put, List.setIfInBounds_toArray, List.set_cons_zero, List.set_cons_succ, i64_w, i32_w]
                                rfl
                              refine pure_ (i := 10) (N := some 41) (v := ?_) (a' := ?_) #[true, true, true, true, true, true, true, true, true, true, true] rfl rfl (any_of HT_.out (by kernel_rfl)) (fun _ _ _ h => h) (Or.inl ⟨by rfl, ?_⟩) ?_ ?_
                              rotate_left
                              · intro w'
                                go_simp
                                with_reducible rfl
                              rotate_left
                              · simp only [Act.put, List.setIfInBounds_toArray, List.set_cons_zero, List.set_cons_succ, i64_w, i32_w]
                                rfl
                              refine done_ (done_of HT_.out (by kernel_rfl)) ?_
                              try go_wp2
                              go_roundg k4
                              case measure => have := HK1.out; have := HJ2.out; have := HJ5.out; have := HK4.out; omega
                              case rel => exact ⟨(x3_4), (wrap64 (x5_4 + 1)), (by first | rfl | (simp; done) | (simp [*]; done) | (simp [wrap64]; done)), (by first | rfl | (simp; done) | (simp [*]; done) | (simp [wrap64]; done)), H', ⟨by have := HK1.out; have := HJ2.out; have := HJ5.out; have := HK4.out; omega⟩, ⟨by repeat (first | (with_reducible first | exact HB.out | apply below_alloc | apply pw_below_drewN | apply below_drew1) | exact HB.out)⟩⟩
                            · rw [if_neg c13] at H
                              have c13b0 : (t890 == 0 && (t891 == 0 && (t892 == 0))) = false := by simpa using c13
                              (try (have c13b1 : decide (t890 = 0 && (t891 == 0 && (t892 == 0))) = false := by simpa using c13))
                              (try (have c13b2 : (t890 == 0 && (t891 == 0 && (t892 == 0))) = false := by simpa using c13))
                              (try (have c13b3 : ¬ (t890 = 0 && (t891 == 0 && (t892 == 0))) := by simpa using c13))
                              clear c13
                              have HC16 := Aside0.mk H
                              clear H
                              try go_wp2
                              have n0_ := Aside0.mk (below_drew1 HB.out)
                              clear HB
                              have HB := n0_
                              clear n0_
                              have p888 : 0 ≤ (x4_1 : Int) := of_decide_eq_true (by first | (with_reducible assumption) | assumption)
                              have q888 : x4_1 < (l0.length : Int) := of_decide_eq_true (by first | (with_reducible assumption) | assumption)
                              obtain ⟨ad888, e888, hx888_0, hx888_1, hx888_2, hx888_3⟩ := at_T38 HR0.out x4_1 p888 q888
                              have hw888_3 := hx888_3
                              have hw888_2 := hx888_2
                              have hw888_1 := hx888_1
                              have hw888_0 := hx888_0
                              cases e888
                              replace hx888_0 := (HB.out.cell (World.block_lt_of_cell? w _ hx888_0)).trans hx888_0
                              replace hx888_1 := (HB.out.cell (World.block_lt_of_cell? w _ hx888_1)).trans hx888_1
                              replace hx888_2 := (HB.out.cell (World.block_lt_of_cell? w _ hx888_2)).trans hx888_2
                              replace hx888_3 := (HB.out.cell (World.block_lt_of_cell? w _ hx888_3)).trans hx888_3
                              replace p888 := eq_true p888
                              replace q888 := eq_true q888
                              have p889 : 0 ≤ (x5_4 : Int) := of_decide_eq_true (by first | (with_reducible assumption) | assumption)
                              have q889 : x5_4 < (l0.length : Int) := of_decide_eq_true (by first | (with_reducible assumption) | assumption)
                              obtain ⟨ad889, e889, hx889_0, hx889_1, hx889_2, hx889_3⟩ := at_T38 HR0.out x5_4 p889 q889
                              have hw889_3 := hx889_3
                              have hw889_2 := hx889_2
                              have hw889_1 := hx889_1
                              have hw889_0 := hx889_0
                              obtain rfl : ad888 = ad889 := (by injection e889)
                              replace hx889_0 := (HB.out.cell (World.block_lt_of_cell? w _ hx889_0)).trans hx889_0
                              replace hx889_1 := (HB.out.cell (World.block_lt_of_cell? w _ hx889_1)).trans hx889_1
                              replace hx889_2 := (HB.out.cell (World.block_lt_of_cell? w _ hx889_2)).trans hx889_2
                              replace hx889_3 := (HB.out.cell (World.block_lt_of_cell? w _ hx889_3)).trans hx889_3
                              replace p889 := eq_true p889
                              replace q889 := eq_true q889
                              refine start_ (n := 11) (S := fun w' => w'.cell? (ad888.add ((x4_1).toNat * 4)) = some (.int .i64 ((rd_T38 l0 x4_1).f0)) ∧ w'.cell? ⟨(ad888.add ((x4_1).toNat * 4)).block, (ad888.add ((x4_1).toNat * 4)).off + 1, none⟩ = some (.int .i64 ((rd_T38 l0 x4_1).f1)) ∧ w'.cell? ⟨(ad888.add ((x4_1).toNat * 4)).block, (ad888.add ((x4_1).toNat * 4)).off + 2, none⟩ = some (.int .i64 ((rd_T38 l0 x4_1).f2)) ∧ w'.cell? ⟨(ad888.add ((x4_1).toNat * 4)).block, (ad888.add ((x4_1).toNat * 4)).off + 3, none⟩ = some (.int .i64 ((rd_T38 l0 x4_1).f3)) ∧ w'.cell? (ad888.add ((x5_4).toNat * 4)) = some (.int .i64 ((rd_T38 l0 x5_4).f0)) ∧ w'.cell? ⟨(ad888.add ((x5_4).toNat * 4)).block, (ad888.add ((x5_4).toNat * 4)).off + 1, none⟩ = some (.int .i64 ((rd_T38 l0 x5_4).f1)) ∧ w'.cell? ⟨(ad888.add ((x5_4).toNat * 4)).block, (ad888.add ((x5_4).toNat * 4)).off + 2, none⟩ = some (.int .i64 ((rd_T38 l0 x5_4).f2)) ∧ w'.cell? ⟨(ad888.add ((x5_4).toNat * 4)).block, (ad888.add ((x5_4).toNat * 4)).off + 3, none⟩ = some (.int .i64 ((rd_T38 l0 x5_4).f3))) (ds := []) #[false, false, false, false, false, false, false, false, false, false, false] (by kernel_rfl) rfl rfl ⟨((HB.out.cell (World.block_lt_of_cell? w _ hw888_0)).trans hw888_0), ((HB.out.cell (World.block_lt_of_cell? w _ hw888_1)).trans hw888_1), ((HB.out.cell (World.block_lt_of_cell? w _ hw888_2)).trans hw888_2), ((HB.out.cell (World.block_lt_of_cell? w _ hw888_3)).trans hw888_3), ((HB.out.cell (World.block_lt_of_cell? w _ hw889_0)).trans hw889_0), ((HB.out.cell (World.block_lt_of_cell? w _ hw889_1)).trans hw889_1), ((HB.out.cell (World.block_lt_of_cell? w _ hw889_2)).trans hw889_2), ((HB.out.cell (World.block_lt_of_cell? w _ hw889_3)).trans hw889_3)⟩ (fun hHeld => ?_); refine with_tabW spec_l4Rank.tab10 spec_l4Rank.bits10 (fun HT_ HW_ => ?_)
                              generalize wr.drew = w17 at HB hx888_0 hx888_1 hx888_2 hx888_3 hx889_0 hx889_1 hx889_2 hx889_3 hHeld ⊢
                              refine pure_ (i := 0) (N := some 31) (v := ?_) (a' := ?_) #[true, false, false, false, false, false, false, false, false, false, false] rfl rfl (any_of HT_.out (by kernel_rfl)) (fun _ _ _ h => h) (Or.inl ⟨by rfl, ?_⟩) ?_ ?_
                              rotate_left
                              · intro w'
                                go_simp
                                with_reducible rfl
                              rotate_left
                              · simp only [Act.put, List.setIfInBounds_toArray, List.set_cons_zero, List.set_cons_succ, i64_w, i32_w]
                                rfl
                              refine pure_ (i := 1) (N := some 32) (v := ?_) (a' := ?_) #[true, true, false, false, false, false, false, false, false, false, false] rfl rfl (any_of HT_.out (by kernel_rfl)) (fun _ _ _ h => h) (Or.inl ⟨by rfl, ?_⟩) ?_ ?_
                              rotate_left
                              · intro w'
                                go_simp
                                with_reducible rfl
                              rotate_left
                              · simp only [Act.put, List.setIfInBounds_toArray, List.set_cons_zero, List.set_cons_succ, i64_w, i32_w]
                                rfl
                              refine pure_ (i := 2) (N := some 33) (v := ?_) (a' := ?_) #[true, true, true, false, false, false, false, false, false, false, false] rfl rfl (any_of HT_.out (by kernel_rfl)) (fun _ _ _ h => h) (Or.inl ⟨by rfl, ?_⟩) ?_ ?_
                              rotate_left
                              · intro w'
                                go_simp
                                with_reducible rfl
                              rotate_left
                              · simp only [Act.put, List.setIfInBounds_toArray, List.set_cons_zero, List.set_cons_succ, i64_w, i32_w]
                                rfl
                              refine pure_ (i := 4) (N := some 35) (v := ?_) (a' := ?_) #[true, true, true, false, true, false, false, false, false, false, false] rfl rfl (any_of HT_.out (by kernel_rfl)) (fun _ _ _ h => h) (Or.inl ⟨by rfl, ?_⟩) ?_ ?_
                              rotate_left
                              · intro w'
                                go_simp
                                with_reducible rfl
                              rotate_left
                              · simp only [Act.put, List.setIfInBounds_toArray, List.set_cons_zero, List.set_cons_succ, i64_w, i32_w]
                                rfl
                              refine pure_ (i := 5) (N := some 36) (v := ?_) (a' := ?_) #[true, true, true, false, true, true, false, false, false, false, false] rfl rfl (any_of HT_.out (by kernel_rfl)) (fun _ _ _ h => h) (Or.inl ⟨by rfl, ?_⟩) ?_ ?_
                              rotate_left
                              · intro w'
                                go_simp
                                with_reducible rfl
                              rotate_left
                              · simp only [Act.put, List.setIfInBounds_toArray, List.set_cons_zero, List.set_cons_succ, i64_w, i32_w]
                                rfl
                              refine pure_ (i := 6) (N := some 37) (v := ?_) (a' := ?_) #[true, true, true, false, true, true, true, false, false, false, false] rfl rfl (any_of HT_.out (by kernel_rfl)) (fun _ _ _ h => h) (Or.inl ⟨by rfl, ?_⟩) ?_ ?_
                              rotate_left
                              · intro w'
                                go_simp
                                with_reducible rfl
                              rotate_left
                              · simp only [Act.put, List.setIfInBounds_toArray, List.set_cons_zero, List.set_cons_succ, i64_w, i32_w]
                                rfl
                              refine pure_ (i := 9) (N := some 40) (v := ?_) (a' := ?_) #[true, true, true, false, true, true, true, false, false, true, false] rfl rfl (any_of HT_.out (by kernel_rfl)) (fun _ _ _ h => h) (Or.inl ⟨by rfl, ?_⟩) ?_ ?_
                              rotate_left
                              · intro w'
                                go_simp
                                with_reducible rfl
                              rotate_left
                              · simp only [Act.put, List.setIfInBounds_toArray, List.set_cons_zero, List.set_cons_succ, i64_w, i32_w]
                                rfl
                              refine take_ (i := 3) (N := some 34) (v := ?_) (a' := ?_) #[true, true, true, true, true, true, true, false, false, true, false] rfl rfl (take_ofW HT_.out HW_.out (by kernel_rfl)) (fun _ _ _ h => h) (Or.inl ⟨by rfl, ?_⟩) hHeld ?_ ?_
                              rotate_left
                              · rintro w' ⟨s0, s1, s2, s3, s4, s5, s6, s7⟩
                                go_simp
                                with_reducible rfl
                              rotate_left
                              · simp only [Act.put, List.setIfInBounds_toArray, List.set_cons_zero, List.set_cons_succ, i64_w, i32_w]
                                rfl
                              refine take_ (i := 7) (N := some 38) (v := ?_) (a' := ?_) #[true, true, true, true, true, true, true, true, false, true, false] rfl rfl (take_ofW HT_.out HW_.out (by kernel_rfl)) (fun _ _ _ h => h) (Or.inl ⟨by rfl, ?_⟩) hHeld ?_ ?_
                              rotate_left
                              · rintro w' ⟨s0, s1, s2, s3, s4, s5, s6, s7⟩
                                go_simp
                                with_reducible rfl
                              rotate_left
                              · simp only [Act.put, List.setIfInBounds_toArray, List.set_cons_zero, List.set_cons_succ, i64_w, i32_w]
                                rfl
                              refine one_ (i := 8) (N := some 39) #[true, true, true, true, true, true, true, true, true, true, false] rfl rfl (one_of HT_.out (by kernel_rfl)) (by decide) (fun K hK => ?_)
                              refine goes_ Try.func114 (by kernel_rfl) rfl #[.agg #[.int .i64 ((rd_T38 l0 x4_1).f0), .int .i64 ((rd_T38 l0 x4_1).f1), .int .i64 ((rd_T38 l0 x4_1).f2), .int .i64 ((rd_T38 l0 x4_1).f3)], .agg #[.int .i64 ((rd_T38 l0 x5_4).f0), .int .i64 ((rd_T38 l0 x5_4).f1), .int .i64 ((rd_T38 l0 x5_4).f2), .int .i64 ((rd_T38 l0 x5_4).f3)]] (by rfl) rfl rfl (by (try simp only [List.map_toArray, List.map_cons, List.map_nil]); first | done | rfl | (simp only [List.length_drop, List.length_take]; rfl)) ?_
                              with_reducible refine (spec_l4Cross.calls ((rd_T38 l0 x4_1).f0) ((rd_T38 l0 x4_1).f1) ((rd_T38 l0 x4_1).f2) ((rd_T38 l0 x4_1).f3) ((rd_T38 l0 x5_4).f0) ((rd_T38 l0 x5_4).f1) ((rd_T38 l0 x5_4).f2) ((rd_T38 l0 x5_4).f3) t890 t891 t892 _ A12.out).mono ?_
                              rintro e w18 ⟨rfl, hb⟩
                              refine ⟨_, rfl, ?_⟩
                              have n0_ := Aside0.mk (below_step (by repeat (first | (with_reducible first | exact HB.out | apply below_alloc | apply pw_below_drewN | apply below_drew1) | exact HB.out)) hb)
                              clear HB
                              have HB := n0_
                              clear n0_
                              (try clear hb)
                              (try clear hb2)
                              (try clear hk)
                              (try clear hi)
                              refine hK.out _ _ ⟨((HB.out.cell (World.block_lt_of_cell? w _ hw888_0)).trans hw888_0), ((HB.out.cell (World.block_lt_of_cell? w _ hw888_1)).trans hw888_1), ((HB.out.cell (World.block_lt_of_cell? w _ hw888_2)).trans hw888_2), ((HB.out.cell (World.block_lt_of_cell? w _ hw888_3)).trans hw888_3), ((HB.out.cell (World.block_lt_of_cell? w _ hw889_0)).trans hw889_0), ((HB.out.cell (World.block_lt_of_cell? w _ hw889_1)).trans hw889_1), ((HB.out.cell (World.block_lt_of_cell? w _ hw889_2)).trans hw889_2), ((HB.out.cell (World.block_lt_of_cell? w _ hw889_3)).trans hw889_3)⟩ (fun hHeld => ?_)
                              clear hK K
                              refine norm_ (a' := ?_) ?_ ?_
                              rotate_left
                              · show Act.put _ (some 39) _ = _
                                simp only [Act.put, List.setIfInBounds_toArray, List.set_cons_zero, List.set_cons_succ, i64_w, i32_w]
                                rfl
                              refine pure_ (i := 10) (N := some 41) (v := ?_) (a' := ?_) #[true, true, true, true, true, true, true, true, true, true, true] rfl rfl (any_of HT_.out (by kernel_rfl)) (fun _ _ _ h => h) (Or.inl ⟨by rfl, ?_⟩) ?_ ?_
                              rotate_left
                              · intro w'
                                go_simp
                                with_reducible rfl
                              rotate_left
                              · simp only [Act.put, List.setIfInBounds_toArray, List.set_cons_zero, List.set_cons_succ, i64_w, i32_w]
                                rfl
                              refine done_ (done_of HT_.out (by kernel_rfl)) ?_
                              go_upto_if 43 with (fail)
                              go_cut [3] (fun v3 wc => ∃ (kq : Nat) (x3_15 : Int), v3 = .int .i64 x3_15 ∧ Aside0 (spec_l4Rank.j4 kq l0 x3_15 x4_1 x5_4 = some r) ∧ Aside0 (kq ≤ k4) ∧ Aside0 (Below w.heap.size w wc))
                              case first =>
                                have H := HC16.out
                                clear HC16
                                by_cases c19 : x3_4 < 2
                                · rw [if_pos c19] at H
                                  have c19b0 : decide (x3_4 < 2) = true := decide_eq_true c19
                                  clear c19
                                  (first | rw [c19b0] | (simp only [i64_w, i32_w]; rw [c19b0]) | skip)
                                  have H' := Aside0.mk H
                                  clear H
                                  go_wp2
                                  go_meet
                                  case rel => exact ⟨_, (2), (by first | rfl | (simp; done) | (simp [*]; done) | (simp [wrap64]; done)), H', ⟨by have := HK1.out; have := HJ2.out; have := HJ5.out; have := HK4.out; first | omega | exact Nat.le_refl _⟩, ⟨by repeat (first | (with_reducible first | exact HB.out | apply below_alloc | apply pw_below_drewN | apply below_drew1) | exact HB.out)⟩⟩
                                · rw [if_neg c19] at H
                                  have c19b0 : decide (x3_4 < 2) = false := decide_eq_false c19
                                  clear c19
                                  (first | rw [c19b0] | (simp only [i64_w, i32_w]; rw [c19b0]) | skip)
                                  have H' := Aside0.mk H
                                  clear H
                                  go_wp2
                                  go_meet
                                  case rel => exact ⟨_, (x3_4), (by first | rfl | (simp; done) | (simp [*]; done) | (simp [wrap64]; done)), H', ⟨by have := HK1.out; have := HJ2.out; have := HJ5.out; have := HK4.out; first | omega | exact Nat.le_refl _⟩, ⟨by repeat (first | (with_reducible first | exact HB.out | apply below_alloc | apply pw_below_drewN | apply below_drew1) | exact HB.out)⟩⟩
                              case rest =>
                                clear HC16
                                try clear c1
                                try clear c2
                                try clear c2b0
                                try clear p2
                                try clear c4
                                try clear c4b0
                                try clear c4b1
                                try clear c5
                                try clear c5b0
                                try clear p6
                                try clear c7
                                try clear c8
                                try clear c8b0
                                try clear p8
                                try clear q8
                                try clear hx8
                                try clear c9
                                try clear c9b0
                                try clear c10
                                try clear c10b0
                                try clear c11
                                try clear c11b0
                                try clear c13
                                try clear c13b0
                                try clear c13b1
                                try clear c13b2
                                try clear c19
                                try clear c19b0
                                try clear hx887_0
                                try clear hx887_1
                                try clear hx887_2
                                try clear hx887_3
                                try clear hx888_0
                                try clear hx888_1
                                try clear hx888_2
                                try clear hx888_3
                                try clear hx889_0
                                try clear hx889_1
                                try clear hx889_2
                                try clear hx889_3
                                try clear p2
                                try clear p6
                                try clear p887
                                try clear p888
                                try clear p889
                                try clear q887
                                try clear q888
                                try clear q889
                                obtain ⟨kq, x3_15, rfl, HA, HJ15, HB⟩ := hcut
                                cases kq with
                                | zero => exact absurd HA.out (by simp [spec_l4Rank.j4])
                                | succ kj15 =>
                                  have H := HA.out
                                  clear HA
                                  simp only [spec_l4Rank.j4] at H
                                  have H' := Aside0.mk H
                                  clear H
                                  go_wp2
                                  go_loopg [6] kj15 (fun kq v6 w' => ∃ (x6_6 : Int), v6 = .int .i64 x6_6 ∧ Aside0 (spec_l4Rank.l2 kq l0 x3_15 x4_1 x5_4 x6_6 = some r) ∧ Aside0 (kq ≤ kj15) ∧ Aside0 (Below w.heap.size w w'))
                                  case atStart => exact ⟨(wrap64 (x5_4 + 1)), (by first | rfl | (simp; done) | (simp [*]; done) | (simp [wrap64]; done)), H', ⟨Nat.le_refl _⟩, ⟨by repeat (first | (with_reducible first | exact HB.out | apply below_alloc | apply pw_below_drewN | apply below_drew1) | exact HB.out)⟩⟩
                                  case round =>
                                    clear H'
                                    try clear c1
                                    try clear c2
                                    try clear c2b0
                                    try clear p2
                                    try clear c4
                                    try clear c4b0
                                    try clear c4b1
                                    try clear c5
                                    try clear c5b0
                                    try clear p6
                                    try clear c7
                                    try clear c8
                                    try clear c8b0
                                    try clear p8
                                    try clear q8
                                    try clear hx8
                                    try clear c9
                                    try clear c9b0
                                    try clear c10
                                    try clear c10b0
                                    try clear c11
                                    try clear c11b0
                                    try clear c13
                                    try clear c13b0
                                    try clear c13b1
                                    try clear c13b2
                                    try clear c19
                                    try clear c19b0
                                    try clear hx887_0
                                    try clear hx887_1
                                    try clear hx887_2
                                    try clear hx887_3
                                    try clear hx888_0
                                    try clear hx888_1
                                    try clear hx888_2
                                    try clear hx888_3
                                    try clear hx889_0
                                    try clear hx889_1
                                    try clear hx889_2
                                    try clear hx889_3
                                    try clear p2
                                    try clear p6
                                    try clear p8
                                    try clear p887
                                    try clear p888
                                    try clear p889
                                    try clear q8
                                    try clear q887
                                    try clear q888
                                    try clear q889
                                    obtain ⟨x6_6, rfl, HA, HK6, HB⟩ := hrel
                                    cases gk with
                                    | zero => exact absurd HA.out (by simp [spec_l4Rank.l2])
                                    | succ k6 =>
                                      have H := HA.out
                                      clear HA
                                      simp only [spec_l4Rank.l2] at H
                                      by_cases c20 : x6_6 < (l0.length : Int)
                                      · rw [if_pos c20] at H
                                        have c20b0 : decide (x6_6 < (l0.length : Int)) = true := decide_eq_true c20
                                        clear c20
                                        by_cases c21 : 0 ≤ x4_1
                                        · rw [if_pos c21] at H
                                          have c21b0 : decide (0 ≤ x4_1) = true := decide_eq_true c21
                                          clear c21
                                          by_cases c22 : x4_1 < (l0.length : Int)
                                          · rw [if_pos c22] at H
                                            have c22b0 : decide (x4_1 < (l0.length : Int)) = true := decide_eq_true c22
                                            clear c22
                                            by_cases c23 : 0 ≤ x5_4
                                            · rw [if_pos c23] at H
                                              have c23b0 : decide (0 ≤ x5_4) = true := decide_eq_true c23
                                              clear c23
                                              by_cases c24 : x5_4 < (l0.length : Int)
                                              · rw [if_pos c24] at H
                                                have c24b0 : decide (x5_4 < (l0.length : Int)) = true := decide_eq_true c24
                                                clear c24
                                                by_cases c25 : 0 ≤ x6_6
                                                · rw [if_pos c25] at H
                                                  have c25b0 : decide (0 ≤ x6_6) = true := decide_eq_true c25
                                                  clear c25
                                                  replace H := Option.bind_eq_some_iff.mp H
                                                  obtain ⟨t896, A260, H⟩ := H
                                                  replace H : (if t896 = 0 then (spec_l4Rank.l2 k6 l0 x3_15 x4_1 x5_4 (wrap64 (x6_6 + 1))) else (some 3)) = some r := H
                                                  have A26 := Aside0.mk A260
                                                  clear A260
                                                  by_cases c27 : t896 = 0
                                                  · rw [if_pos c27] at H
                                                    have c27b0 : (t896 == 0) = true := beq_iff_eq.mpr c27
                                                    have c27b1 : (t896 != 0) = false := bne_eq_false_iff_eq.mpr c27
                                                    clear c27
                                                    have H' := Aside0.mk H
                                                    clear H
                                                    try go_wp2
                                                    have n0_ := Aside0.mk (below_drew1 HB.out)
                                                    clear HB
                                                    have HB := n0_
                                                    clear n0_
                                                    have p893 : 0 ≤ (x4_1 : Int) := of_decide_eq_true (by first | (with_reducible assumption) | assumption)
                                                    have q893 : x4_1 < (l0.length : Int) := of_decide_eq_true (by first | (with_reducible assumption) | assumption)
                                                    obtain ⟨ad893, e893, hx893_0, hx893_1, hx893_2, hx893_3⟩ := at_T38 HR0.out x4_1 p893 q893
                                                    have hw893_3 := hx893_3
                                                    have hw893_2 := hx893_2
                                                    have hw893_1 := hx893_1
                                                    have hw893_0 := hx893_0
                                                    obtain rfl : ad888 = ad893 := (by injection e893)
                                                    replace hx893_0 := (HB.out.cell (World.block_lt_of_cell? w _ hx893_0)).trans hx893_0
                                                    replace hx893_1 := (HB.out.cell (World.block_lt_of_cell? w _ hx893_1)).trans hx893_1
                                                    replace hx893_2 := (HB.out.cell (World.block_lt_of_cell? w _ hx893_2)).trans hx893_2
                                                    replace hx893_3 := (HB.out.cell (World.block_lt_of_cell? w _ hx893_3)).trans hx893_3
                                                    replace p893 := eq_true p893
                                                    replace q893 := eq_true q893
                                                    have p894 : 0 ≤ (x5_4 : Int) := of_decide_eq_true (by first | (with_reducible assumption) | assumption)
                                                    have q894 : x5_4 < (l0.length : Int) := of_decide_eq_true (by first | (with_reducible assumption) | assumption)
                                                    obtain ⟨ad894, e894, hx894_0, hx894_1, hx894_2, hx894_3⟩ := at_T38 HR0.out x5_4 p894 q894
                                                    have hw894_3 := hx894_3
                                                    have hw894_2 := hx894_2
                                                    have hw894_1 := hx894_1
                                                    have hw894_0 := hx894_0
                                                    obtain rfl : ad888 = ad894 := (by injection e894)
                                                    replace hx894_0 := (HB.out.cell (World.block_lt_of_cell? w _ hx894_0)).trans hx894_0
                                                    replace hx894_1 := (HB.out.cell (World.block_lt_of_cell? w _ hx894_1)).trans hx894_1
                                                    replace hx894_2 := (HB.out.cell (World.block_lt_of_cell? w _ hx894_2)).trans hx894_2
                                                    replace hx894_3 := (HB.out.cell (World.block_lt_of_cell? w _ hx894_3)).trans hx894_3
                                                    replace p894 := eq_true p894
                                                    replace q894 := eq_true q894
                                                    have p895 : 0 ≤ (x6_6 : Int) := of_decide_eq_true (by first | (with_reducible assumption) | assumption)
                                                    have q895 : x6_6 < (l0.length : Int) := of_decide_eq_true (by first | (with_reducible assumption) | assumption)
                                                    obtain ⟨ad895, e895, hx895_0, hx895_1, hx895_2, hx895_3⟩ := at_T38 HR0.out x6_6 p895 q895
                                                    have hw895_3 := hx895_3
                                                    have hw895_2 := hx895_2
                                                    have hw895_1 := hx895_1
                                                    have hw895_0 := hx895_0
                                                    obtain rfl : ad888 = ad895 := (by injection e895)
                                                    replace hx895_0 := (HB.out.cell (World.block_lt_of_cell? w _ hx895_0)).trans hx895_0
                                                    replace hx895_1 := (HB.out.cell (World.block_lt_of_cell? w _ hx895_1)).trans hx895_1
                                                    replace hx895_2 := (HB.out.cell (World.block_lt_of_cell? w _ hx895_2)).trans hx895_2
                                                    replace hx895_3 := (HB.out.cell (World.block_lt_of_cell? w _ hx895_3)).trans hx895_3
                                                    replace p895 := eq_true p895
                                                    replace q895 := eq_true q895
                                                    refine start_ (n := 14) (S := fun w' => w'.cell? (ad888.add ((x4_1).toNat * 4)) = some (.int .i64 ((rd_T38 l0 x4_1).f0)) ∧ w'.cell? ⟨(ad888.add ((x4_1).toNat * 4)).block, (ad888.add ((x4_1).toNat * 4)).off + 1, none⟩ = some (.int .i64 ((rd_T38 l0 x4_1).f1)) ∧ w'.cell? ⟨(ad888.add ((x4_1).toNat * 4)).block, (ad888.add ((x4_1).toNat * 4)).off + 2, none⟩ = some (.int .i64 ((rd_T38 l0 x4_1).f2)) ∧ w'.cell? ⟨(ad888.add ((x4_1).toNat * 4)).block, (ad888.add ((x4_1).toNat * 4)).off + 3, none⟩ = some (.int .i64 ((rd_T38 l0 x4_1).f3)) ∧ w'.cell? (ad888.add ((x5_4).toNat * 4)) = some (.int .i64 ((rd_T38 l0 x5_4).f0)) ∧ w'.cell? ⟨(ad888.add ((x5_4).toNat * 4)).block, (ad888.add ((x5_4).toNat * 4)).off + 1, none⟩ = some (.int .i64 ((rd_T38 l0 x5_4).f1)) ∧ w'.cell? ⟨(ad888.add ((x5_4).toNat * 4)).block, (ad888.add ((x5_4).toNat * 4)).off + 2, none⟩ = some (.int .i64 ((rd_T38 l0 x5_4).f2)) ∧ w'.cell? ⟨(ad888.add ((x5_4).toNat * 4)).block, (ad888.add ((x5_4).toNat * 4)).off + 3, none⟩ = some (.int .i64 ((rd_T38 l0 x5_4).f3)) ∧ w'.cell? (ad888.add ((x6_6).toNat * 4)) = some (.int .i64 ((rd_T38 l0 x6_6).f0)) ∧ w'.cell? ⟨(ad888.add ((x6_6).toNat * 4)).block, (ad888.add ((x6_6).toNat * 4)).off + 1, none⟩ = some (.int .i64 ((rd_T38 l0 x6_6).f1)) ∧ w'.cell? ⟨(ad888.add ((x6_6).toNat * 4)).block, (ad888.add ((x6_6).toNat * 4)).off + 2, none⟩ = some (.int .i64 ((rd_T38 l0 x6_6).f2)) ∧ w'.cell? ⟨(ad888.add ((x6_6).toNat * 4)).block, (ad888.add ((x6_6).toNat * 4)).off + 3, none⟩ = some (.int .i64 ((rd_T38 l0 x6_6).f3))) (ds := []) #[false, false, false, false, false, false, false, false, false, false, false, false, false, false] (by kernel_rfl) rfl rfl ⟨((HB.out.cell (World.block_lt_of_cell? w _ hw893_0)).trans hw893_0), ((HB.out.cell (World.block_lt_of_cell? w _ hw893_1)).trans hw893_1), ((HB.out.cell (World.block_lt_of_cell? w _ hw893_2)).trans hw893_2), ((HB.out.cell (World.block_lt_of_cell? w _ hw893_3)).trans hw893_3), ((HB.out.cell (World.block_lt_of_cell? w _ hw894_0)).trans hw894_0), ((HB.out.cell (World.block_lt_of_cell? w _ hw894_1)).trans hw894_1), ((HB.out.cell (World.block_lt_of_cell? w _ hw894_2)).trans hw894_2), ((HB.out.cell (World.block_lt_of_cell? w _ hw894_3)).trans hw894_3), ((HB.out.cell (World.block_lt_of_cell? w _ hw895_0)).trans hw895_0), ((HB.out.cell (World.block_lt_of_cell? w _ hw895_1)).trans hw895_1), ((HB.out.cell (World.block_lt_of_cell? w _ hw895_2)).trans hw895_2), ((HB.out.cell (World.block_lt_of_cell? w _ hw895_3)).trans hw895_3)⟩ (fun hHeld => ?_); refine with_tabW spec_l4Rank.tab16 spec_l4Rank.bits16 (fun HT_ HW_ => ?_)
                                                    generalize wr.drew = w28 at HB hx893_0 hx893_1 hx893_2 hx893_3 hx894_0 hx894_1 hx894_2 hx894_3 hx895_0 hx895_1 hx895_2 hx895_3 hHeld ⊢
                                                    refine pure_ (i := 0) (N := some 52) (v := ?_) (a' := ?_) #[true, false, false, false, false, false, false, false, false, false, false, false, false, false] rfl rfl (any_of HT_.out (by kernel_rfl)) (fun _ _ _ h => h) (Or.inl ⟨by rfl, ?_⟩) ?_ ?_
                                                    rotate_left
                                                    · intro w'
                                                      go_simp
                                                      with_reducible rfl
                                                    rotate_left
                                                    · simp only [Act.put, List.setIfInBounds_toArray, List.set_cons_zero, List.set_cons_succ, i64_w, i32_w]
                                                      rfl
                                                    refine pure_ (i := 1) (N := some 53) (v := ?_) (a' := ?_) #[true, true, false, false, false, false, false, false, false, false, false, false, false, false] rfl rfl (any_of HT_.out (by kernel_rfl)) (fun _ _ _ h => h) (Or.inl ⟨by rfl, ?_⟩) ?_ ?_
                                                    rotate_left
                                                    · intro w'
                                                      go_simp
                                                      with_reducible rfl
                                                    rotate_left
                                                    · simp only [Act.put, List.setIfInBounds_toArray, List.set_cons_zero, List.set_cons_succ, i64_w, i32_w]
                                                      rfl
                                                    refine pure_ (i := 2) (N := some 54) (v := ?_) (a' := ?_) #[true, true, true, false, false, false, false, false, false, false, false, false, false, false] rfl rfl (any_of HT_.out (by kernel_rfl)) (fun _ _ _ h => h) (Or.inl ⟨by rfl, ?_⟩) ?_ ?_
                                                    rotate_left
                                                    · intro w'
                                                      go_simp
                                                      with_reducible rfl
                                                    rotate_left
                                                    · simp only [Act.put, List.setIfInBounds_toArray, List.set_cons_zero, List.set_cons_succ, i64_w, i32_w]
                                                      rfl
                                                    refine pure_ (i := 4) (N := some 56) (v := ?_) (a' := ?_) #[true, true, true, false, true, false, false, false, false, false, false, false, false, false] rfl rfl (any_of HT_.out (by kernel_rfl)) (fun _ _ _ h => h) (Or.inl ⟨by rfl, ?_⟩) ?_ ?_
                                                    rotate_left
                                                    · intro w'
                                                      go_simp
                                                      with_reducible rfl
                                                    rotate_left
                                                    · simp only [Act.put, List.setIfInBounds_toArray, List.set_cons_zero, List.set_cons_succ, i64_w, i32_w]
                                                      rfl
                                                    refine pure_ (i := 5) (N := some 57) (v := ?_) (a' := ?_) #[true, true, true, false, true, true, false, false, false, false, false, false, false, false] rfl rfl (any_of HT_.out (by kernel_rfl)) (fun _ _ _ h => h) (Or.inl ⟨by rfl, ?_⟩) ?_ ?_
                                                    rotate_left
                                                    · intro w'
                                                      go_simp
                                                      with_reducible rfl
                                                    rotate_left
                                                    · simp only [Act.put, List.setIfInBounds_toArray, List.set_cons_zero, List.set_cons_succ, i64_w, i32_w]
                                                      rfl
                                                    refine pure_ (i := 6) (N := some 58) (v := ?_) (a' := ?_) #[true, true, true, false, true, true, true, false, false, false, false, false, false, false] rfl rfl (any_of HT_.out (by kernel_rfl)) (fun _ _ _ h => h) (Or.inl ⟨by rfl, ?_⟩) ?_ ?_
                                                    rotate_left
                                                    · intro w'
                                                      go_simp
                                                      with_reducible rfl
                                                    rotate_left
                                                    · simp only [Act.put, List.setIfInBounds_toArray, List.set_cons_zero, List.set_cons_succ, i64_w, i32_w]
                                                      rfl
                                                    refine pure_ (i := 8) (N := some 60) (v := ?_) (a' := ?_) #[true, true, true, false, true, true, true, false, true, false, false, false, false, false] rfl rfl (any_of HT_.out (by kernel_rfl)) (fun _ _ _ h => h) (Or.inl ⟨by rfl, ?_⟩) ?_ ?_
                                                    rotate_left
                                                    · intro w'
                                                      go_simp
                                                      with_reducible rfl
                                                    rotate_left
                                                    · simp only [Act.put, List.setIfInBounds_toArray, List.set_cons_zero, List.set_cons_succ, i64_w, i32_w]
                                                      rfl
                                                    refine pure_ (i := 9) (N := some 61) (v := ?_) (a' := ?_) #[true, true, true, false, true, true, true, false, true, true, false, false, false, false] rfl rfl (any_of HT_.out (by kernel_rfl)) (fun _ _ _ h => h) (Or.inl ⟨by rfl, ?_⟩) ?_ ?_
                                                    rotate_left
                                                    · intro w'
                                                      go_simp
                                                      with_reducible rfl
                                                    rotate_left
                                                    · simp only [Act.put, List.setIfInBounds_toArray, List.set_cons_zero, List.set_cons_succ, i64_w, i32_w]
                                                      rfl
                                                    refine pure_ (i := 10) (N := some 62) (v := ?_) (a' := ?_) #[true, true, true, false, true, true, true, false, true, true, true, false, false, false] rfl rfl (any_of HT_.out (by kernel_rfl)) (fun _ _ _ h => h) (Or.inl ⟨by rfl, ?_⟩) ?_ ?_
                                                    rotate_left
                                                    · intro w'
                                                      go_simp
                                                      with_reducible rfl
                                                    rotate_left
                                                    · simp only [Act.put, List.setIfInBounds_toArray, List.set_cons_zero, List.set_cons_succ, i64_w, i32_w]
                                                      rfl
                                                    refine take_ (i := 3) (N := some 55) (v := ?_) (a' := ?_) #[true, true, true, true, true, true, true, false, true, true, true, false, false, false] rfl rfl (take_ofW HT_.out HW_.out (by kernel_rfl)) (fun _ _ _ h => h) (Or.inl ⟨by rfl, ?_⟩) hHeld ?_ ?_
                                                    rotate_left
                                                    · rintro w' ⟨s0, s1, s2, s3, s4, s5, s6, s7, s8, s9, s10, s11⟩
                                                      go_simp
                                                      with_reducible rfl
                                                    rotate_left
                                                    · simp only [Act.put, List.setIfInBounds_toArray, List.set_cons_zero, List.set_cons_succ, i64_w, i32_w]
                                                      rfl
                                                    refine take_ (i := 7) (N := some 59) (v := ?_) (a' := ?_) #[true, true, true, true, true, true, true, true, true, true, true, false, false, false] rfl rfl (take_ofW HT_.out HW_.out (by kernel_rfl)) (fun _ _ _ h => h) (Or.inl ⟨by rfl, ?_⟩) hHeld ?_ ?_
                                                    rotate_left
                                                    · rintro w' ⟨s0, s1, s2, s3, s4, s5, s6, s7, s8, s9, s10, s11⟩
                                                      go_simp
                                                      with_reducible rfl
                                                    rotate_left
                                                    · simp only [Act.put, List.setIfInBounds_toArray, List.set_cons_zero, List.set_cons_succ, i64_w, i32_w]
                                                      rfl
                                                    refine take_ (i := 11) (N := some 63) (v := ?_) (a' := ?_) #[true, true, true, true, true, true, true, true, true, true, true, true, false, false] rfl rfl (take_ofW HT_.out HW_.out (by kernel_rfl)) (fun _ _ _ h => h) (Or.inl ⟨by rfl, ?_⟩) hHeld ?_ ?_
                                                    rotate_left
                                                    · rintro w' ⟨s0, s1, s2, s3, s4, s5, s6, s7, s8, s9, s10, s11⟩
                                                      go_simp
                                                      with_reducible rfl
                                                    rotate_left
                                                    · simp only [Act.put, List.setIfInBounds_toArray, List.set_cons_zero, List.set_cons_succ, i64_w, i32_w]
                                                      rfl
                                                    refine one_ (i := 12) (N := some 64) #[true, true, true, true, true, true, true, true, true, true, true, true, true, false] rfl rfl (one_of HT_.out (by kernel_rfl)) (by decide) (fun K hK => ?_)
                                                    refine goes_ Try.func119 (by kernel_rfl) rfl #[.agg #[.int .i64 ((rd_T38 l0 x4_1).f0), .int .i64 ((rd_T38 l0 x4_1).f1), .int .i64 ((rd_T38 l0 x4_1).f2), .int .i64 ((rd_T38 l0 x4_1).f3)], .agg #[.int .i64 ((rd_T38 l0 x5_4).f0), .int .i64 ((rd_T38 l0 x5_4).f1), .int .i64 ((rd_T38 l0 x5_4).f2), .int .i64 ((rd_T38 l0 x5_4).f3)], .agg #[.int .i64 ((rd_T38 l0 x6_6).f0), .int .i64 ((rd_T38 l0 x6_6).f1), .int .i64 ((rd_T38 l0 x6_6).f2), .int .i64 ((rd_T38 l0 x6_6).f3)]] (by rfl) rfl rfl (by (try simp only [List.map_toArray, List.map_cons, List.map_nil]); first | done | rfl | (simp only [List.length_drop, List.length_take]; rfl)) ?_
                                                    with_reducible refine (spec_l4Det3.calls ((rd_T38 l0 x4_1).f0) ((rd_T38 l0 x4_1).f1) ((rd_T38 l0 x4_1).f2) ((rd_T38 l0 x4_1).f3) ((rd_T38 l0 x5_4).f0) ((rd_T38 l0 x5_4).f1) ((rd_T38 l0 x5_4).f2) ((rd_T38 l0 x5_4).f3) ((rd_T38 l0 x6_6).f0) ((rd_T38 l0 x6_6).f1) ((rd_T38 l0 x6_6).f2) ((rd_T38 l0 x6_6).f3) t896 _ A26.out).mono ?_
                                                    rintro e w29 ⟨rfl, hb⟩
                                                    refine ⟨_, rfl, ?_⟩
                                                    have n0_ := Aside0.mk (below_step (by repeat (first | (with_reducible first | exact HB.out | apply below_alloc | apply pw_below_drewN | apply below_drew1) | exact HB.out)) hb)
                                                    clear HB
                                                    have HB := n0_
                                                    clear n0_
                                                    (try clear hb)
                                                    (try clear hb2)
                                                    (try clear hk)
                                                    (try clear hi)
                                                    refine hK.out _ _ ⟨((HB.out.cell (World.block_lt_of_cell? w _ hw893_0)).trans hw893_0), ((HB.out.cell (World.block_lt_of_cell? w _ hw893_1)).trans hw893_1), ((HB.out.cell (World.block_lt_of_cell? w _ hw893_2)).trans hw893_2), ((HB.out.cell (World.block_lt_of_cell? w _ hw893_3)).trans hw893_3), ((HB.out.cell (World.block_lt_of_cell? w _ hw894_0)).trans hw894_0), ((HB.out.cell (World.block_lt_of_cell? w _ hw894_1)).trans hw894_1), ((HB.out.cell (World.block_lt_of_cell? w _ hw894_2)).trans hw894_2), ((HB.out.cell (World.block_lt_of_cell? w _ hw894_3)).trans hw894_3), ((HB.out.cell (World.block_lt_of_cell? w _ hw895_0)).trans hw895_0), ((HB.out.cell (World.block_lt_of_cell? w _ hw895_1)).trans hw895_1), ((HB.out.cell (World.block_lt_of_cell? w _ hw895_2)).trans hw895_2), ((HB.out.cell (World.block_lt_of_cell? w _ hw895_3)).trans hw895_3)⟩ (fun hHeld => ?_)
                                                    clear hK K
                                                    refine norm_ (a' := ?_) ?_ ?_
                                                    rotate_left
                                                    · show Act.put _ (some 64) _ = _
                                                      simp only [Act.put, List.setIfInBounds_toArray, List.set_cons_zero, List.set_cons_succ, i64_w, i32_w]
                                                      rfl
                                                    refine pure_ (i := 13) (N := some 65) (v := ?_) (a' := ?_) #[true, true, true, true, true, true, true, true, true, true, true, true, true, true] rfl rfl (any_of HT_.out (by kernel_rfl)) (fun _ _ _ h => h) (Or.inl ⟨by rfl, ?_⟩) ?_ ?_
                                                    rotate_left
                                                    · intro w'
                                                      go_simp
                                                      with_reducible rfl
                                                    rotate_left
                                                    · simp only [Act.put, List.setIfInBounds_toArray, List.set_cons_zero, List.set_cons_succ, i64_w, i32_w]
                                                      rfl
                                                    refine done_ (done_of HT_.out (by kernel_rfl)) ?_
                                                    try go_wp2
                                                    go_roundg k6
                                                    case measure => have := HK1.out; have := HJ2.out; have := HJ5.out; have := HK4.out; have := HJ15.out; have := HK6.out; omega
                                                    case rel => exact ⟨(wrap64 (x6_6 + 1)), (by first | rfl | (simp; done) | (simp [*]; done) | (simp [wrap64]; done)), H', ⟨by have := HK1.out; have := HJ2.out; have := HJ5.out; have := HK4.out; have := HJ15.out; have := HK6.out; omega⟩, ⟨by repeat (first | (with_reducible first | exact HB.out | apply below_alloc | apply pw_below_drewN | apply below_drew1) | exact HB.out)⟩⟩
                                                  · rw [if_neg c27] at H
                                                    have c27b0 : (t896 == 0) = false := beq_eq_false_iff_ne.mpr c27
                                                    have c27b1 : (t896 != 0) = true := bne_iff_ne.mpr c27
                                                    obtain rfl := Option.some.inj H
                                                    try go_wp2
                                                    have n0_ := Aside0.mk (below_drew1 HB.out)
                                                    clear HB
                                                    have HB := n0_
                                                    clear n0_
                                                    have p893 : 0 ≤ (x4_1 : Int) := of_decide_eq_true (by first | (with_reducible assumption) | assumption)
                                                    have q893 : x4_1 < (l0.length : Int) := of_decide_eq_true (by first | (with_reducible assumption) | assumption)
                                                    obtain ⟨ad893, e893, hx893_0, hx893_1, hx893_2, hx893_3⟩ := at_T38 HR0.out x4_1 p893 q893
                                                    have hw893_3 := hx893_3
                                                    have hw893_2 := hx893_2
                                                    have hw893_1 := hx893_1
                                                    have hw893_0 := hx893_0
                                                    obtain rfl : ad888 = ad893 := (by injection e893)
                                                    replace hx893_0 := (HB.out.cell (World.block_lt_of_cell? w _ hx893_0)).trans hx893_0
                                                    replace hx893_1 := (HB.out.cell (World.block_lt_of_cell? w _ hx893_1)).trans hx893_1
                                                    replace hx893_2 := (HB.out.cell (World.block_lt_of_cell? w _ hx893_2)).trans hx893_2
                                                    replace hx893_3 := (HB.out.cell (World.block_lt_of_cell? w _ hx893_3)).trans hx893_3
                                                    replace p893 := eq_true p893
                                                    replace q893 := eq_true q893
                                                    have p894 : 0 ≤ (x5_4 : Int) := of_decide_eq_true (by first | (with_reducible assumption) | assumption)
                                                    have q894 : x5_4 < (l0.length : Int) := of_decide_eq_true (by first | (with_reducible assumption) | assumption)
                                                    obtain ⟨ad894, e894, hx894_0, hx894_1, hx894_2, hx894_3⟩ := at_T38 HR0.out x5_4 p894 q894
                                                    have hw894_3 := hx894_3
                                                    have hw894_2 := hx894_2
                                                    have hw894_1 := hx894_1
                                                    have hw894_0 := hx894_0
                                                    obtain rfl : ad888 = ad894 := (by injection e894)
                                                    replace hx894_0 := (HB.out.cell (World.block_lt_of_cell? w _ hx894_0)).trans hx894_0
                                                    replace hx894_1 := (HB.out.cell (World.block_lt_of_cell? w _ hx894_1)).trans hx894_1
                                                    replace hx894_2 := (HB.out.cell (World.block_lt_of_cell? w _ hx894_2)).trans hx894_2
                                                    replace hx894_3 := (HB.out.cell (World.block_lt_of_cell? w _ hx894_3)).trans hx894_3
                                                    replace p894 := eq_true p894
                                                    replace q894 := eq_true q894
                                                    have p895 : 0 ≤ (x6_6 : Int) := of_decide_eq_true (by first | (with_reducible assumption) | assumption)
                                                    have q895 : x6_6 < (l0.length : Int) := of_decide_eq_true (by first | (with_reducible assumption) | assumption)
                                                    obtain ⟨ad895, e895, hx895_0, hx895_1, hx895_2, hx895_3⟩ := at_T38 HR0.out x6_6 p895 q895
                                                    have hw895_3 := hx895_3
                                                    have hw895_2 := hx895_2
                                                    have hw895_1 := hx895_1
                                                    have hw895_0 := hx895_0
                                                    obtain rfl : ad888 = ad895 := (by injection e895)
                                                    replace hx895_0 := (HB.out.cell (World.block_lt_of_cell? w _ hx895_0)).trans hx895_0
                                                    replace hx895_1 := (HB.out.cell (World.block_lt_of_cell? w _ hx895_1)).trans hx895_1
                                                    replace hx895_2 := (HB.out.cell (World.block_lt_of_cell? w _ hx895_2)).trans hx895_2
                                                    replace hx895_3 := (HB.out.cell (World.block_lt_of_cell? w _ hx895_3)).trans hx895_3
                                                    replace p895 := eq_true p895
                                                    replace q895 := eq_true q895
                                                    refine start_ (n := 14) (S := fun w' => w'.cell? (ad888.add ((x4_1).toNat * 4)) = some (.int .i64 ((rd_T38 l0 x4_1).f0)) ∧ w'.cell? ⟨(ad888.add ((x4_1).toNat * 4)).block, (ad888.add ((x4_1).toNat * 4)).off + 1, none⟩ = some (.int .i64 ((rd_T38 l0 x4_1).f1)) ∧ w'.cell? ⟨(ad888.add ((x4_1).toNat * 4)).block, (ad888.add ((x4_1).toNat * 4)).off + 2, none⟩ = some (.int .i64 ((rd_T38 l0 x4_1).f2)) ∧ w'.cell? ⟨(ad888.add ((x4_1).toNat * 4)).block, (ad888.add ((x4_1).toNat * 4)).off + 3, none⟩ = some (.int .i64 ((rd_T38 l0 x4_1).f3)) ∧ w'.cell? (ad888.add ((x5_4).toNat * 4)) = some (.int .i64 ((rd_T38 l0 x5_4).f0)) ∧ w'.cell? ⟨(ad888.add ((x5_4).toNat * 4)).block, (ad888.add ((x5_4).toNat * 4)).off + 1, none⟩ = some (.int .i64 ((rd_T38 l0 x5_4).f1)) ∧ w'.cell? ⟨(ad888.add ((x5_4).toNat * 4)).block, (ad888.add ((x5_4).toNat * 4)).off + 2, none⟩ = some (.int .i64 ((rd_T38 l0 x5_4).f2)) ∧ w'.cell? ⟨(ad888.add ((x5_4).toNat * 4)).block, (ad888.add ((x5_4).toNat * 4)).off + 3, none⟩ = some (.int .i64 ((rd_T38 l0 x5_4).f3)) ∧ w'.cell? (ad888.add ((x6_6).toNat * 4)) = some (.int .i64 ((rd_T38 l0 x6_6).f0)) ∧ w'.cell? ⟨(ad888.add ((x6_6).toNat * 4)).block, (ad888.add ((x6_6).toNat * 4)).off + 1, none⟩ = some (.int .i64 ((rd_T38 l0 x6_6).f1)) ∧ w'.cell? ⟨(ad888.add ((x6_6).toNat * 4)).block, (ad888.add ((x6_6).toNat * 4)).off + 2, none⟩ = some (.int .i64 ((rd_T38 l0 x6_6).f2)) ∧ w'.cell? ⟨(ad888.add ((x6_6).toNat * 4)).block, (ad888.add ((x6_6).toNat * 4)).off + 3, none⟩ = some (.int .i64 ((rd_T38 l0 x6_6).f3))) (ds := []) #[false, false, false, false, false, false, false, false, false, false, false, false, false, false] (by kernel_rfl) rfl rfl ⟨((HB.out.cell (World.block_lt_of_cell? w _ hw893_0)).trans hw893_0), ((HB.out.cell (World.block_lt_of_cell? w _ hw893_1)).trans hw893_1), ((HB.out.cell (World.block_lt_of_cell? w _ hw893_2)).trans hw893_2), ((HB.out.cell (World.block_lt_of_cell? w _ hw893_3)).trans hw893_3), ((HB.out.cell (World.block_lt_of_cell? w _ hw894_0)).trans hw894_0), ((HB.out.cell (World.block_lt_of_cell? w _ hw894_1)).trans hw894_1), ((HB.out.cell (World.block_lt_of_cell? w _ hw894_2)).trans hw894_2), ((HB.out.cell (World.block_lt_of_cell? w _ hw894_3)).trans hw894_3), ((HB.out.cell (World.block_lt_of_cell? w _ hw895_0)).trans hw895_0), ((HB.out.cell (World.block_lt_of_cell? w _ hw895_1)).trans hw895_1), ((HB.out.cell (World.block_lt_of_cell? w _ hw895_2)).trans hw895_2), ((HB.out.cell (World.block_lt_of_cell? w _ hw895_3)).trans hw895_3)⟩ (fun hHeld => ?_); refine with_tabW spec_l4Rank.tab16 spec_l4Rank.bits16 (fun HT_ HW_ => ?_)
                                                    generalize wr.drew = w30 at HB hx893_0 hx893_1 hx893_2 hx893_3 hx894_0 hx894_1 hx894_2 hx894_3 hx895_0 hx895_1 hx895_2 hx895_3 hHeld ⊢
                                                    refine pure_ (i := 0) (N := some 52) (v := ?_) (a' := ?_) #[true, false, false, false, false, false, false, false, false, false, false, false, false, false] rfl rfl (any_of HT_.out (by kernel_rfl)) (fun _ _ _ h => h) (Or.inl ⟨by rfl, ?_⟩) ?_ ?_
                                                    rotate_left
                                                    · intro w'
                                                      go_simp
                                                      with_reducible rfl
                                                    rotate_left
                                                    · simp only [Act.put, List.setIfInBounds_toArray, List.set_cons_zero, List.set_cons_succ, i64_w, i32_w]
                                                      rfl
                                                    refine pure_ (i := 1) (N := some 53) (v := ?_) (a' := ?_) #[true, true, false, false, false, false, false, false, false, false, false, false, false, false] rfl rfl (any_of HT_.out (by kernel_rfl)) (fun _ _ _ h => h) (Or.inl ⟨by rfl, ?_⟩) ?_ ?_
                                                    rotate_left
                                                    · intro w'
                                                      go_simp
                                                      with_reducible rfl
                                                    rotate_left
                                                    · simp only [Act.put, List.setIfInBounds_toArray, List.set_cons_zero, List.set_cons_succ, i64_w, i32_w]
                                                      rfl
                                                    refine pure_ (i := 2) (N := some 54) (v := ?_) (a' := ?_) #[true, true, true, false, false, false, false, false, false, false, false, false, false, false] rfl rfl (any_of HT_.out (by kernel_rfl)) (fun _ _ _ h => h) (Or.inl ⟨by rfl, ?_⟩) ?_ ?_
                                                    rotate_left
                                                    · intro w'
                                                      go_simp
                                                      with_reducible rfl
                                                    rotate_left
                                                    · simp only [Act.put, List.setIfInBounds_toArray, List.set_cons_zero, List.set_cons_succ, i64_w, i32_w]
                                                      rfl
                                                    refine pure_ (i := 4) (N := some 56) (v := ?_) (a' := ?_) #[true, true, true, false, true, false, false, false, false, false, false, false, false, false] rfl rfl (any_of HT_.out (by kernel_rfl)) (fun _ _ _ h => h) (Or.inl ⟨by rfl, ?_⟩) ?_ ?_
                                                    rotate_left
                                                    · intro w'
                                                      go_simp
                                                      with_reducible rfl
                                                    rotate_left
                                                    · simp only [Act.put, List.setIfInBounds_toArray, List.set_cons_zero, List.set_cons_succ, i64_w, i32_w]
                                                      rfl
                                                    refine pure_ (i := 5) (N := some 57) (v := ?_) (a' := ?_) #[true, true, true, false, true, true, false, false, false, false, false, false, false, false] rfl rfl (any_of HT_.out (by kernel_rfl)) (fun _ _ _ h => h) (Or.inl ⟨by rfl, ?_⟩) ?_ ?_
                                                    rotate_left
                                                    · intro w'
                                                      go_simp
                                                      with_reducible rfl
                                                    rotate_left
                                                    · simp only [Act.put, List.setIfInBounds_toArray, List.set_cons_zero, List.set_cons_succ, i64_w, i32_w]
                                                      rfl
                                                    refine pure_ (i := 6) (N := some 58) (v := ?_) (a' := ?_) #[true, true, true, false, true, true, true, false, false, false, false, false, false, false] rfl rfl (any_of HT_.out (by kernel_rfl)) (fun _ _ _ h => h) (Or.inl ⟨by rfl, ?_⟩) ?_ ?_
                                                    rotate_left
                                                    · intro w'
                                                      go_simp
                                                      with_reducible rfl
                                                    rotate_left
                                                    · simp only [Act.put, List.setIfInBounds_toArray, List.set_cons_zero, List.set_cons_succ, i64_w, i32_w]
                                                      rfl
                                                    refine pure_ (i := 8) (N := some 60) (v := ?_) (a' := ?_) #[true, true, true, false, true, true, true, false, true, false, false, false, false, false] rfl rfl (any_of HT_.out (by kernel_rfl)) (fun _ _ _ h => h) (Or.inl ⟨by rfl, ?_⟩) ?_ ?_
                                                    rotate_left
                                                    · intro w'
                                                      go_simp
                                                      with_reducible rfl
                                                    rotate_left
                                                    · simp only [Act.put, List.setIfInBounds_toArray, List.set_cons_zero, List.set_cons_succ, i64_w, i32_w]
                                                      rfl
                                                    refine pure_ (i := 9) (N := some 61) (v := ?_) (a' := ?_) #[true, true, true, false, true, true, true, false, true, true, false, false, false, false] rfl rfl (any_of HT_.out (by kernel_rfl)) (fun _ _ _ h => h) (Or.inl ⟨by rfl, ?_⟩) ?_ ?_
                                                    rotate_left
                                                    · intro w'
                                                      go_simp
                                                      with_reducible rfl
                                                    rotate_left
                                                    · simp only [Act.put, List.setIfInBounds_toArray, List.set_cons_zero, List.set_cons_succ, i64_w, i32_w]
                                                      rfl
                                                    refine pure_ (i := 10) (N := some 62) (v := ?_) (a' := ?_) #[true, true, true, false, true, true, true, false, true, true, true, false, false, false] rfl rfl (any_of HT_.out (by kernel_rfl)) (fun _ _ _ h => h) (Or.inl ⟨by rfl, ?_⟩) ?_ ?_
                                                    rotate_left
                                                    · intro w'
                                                      go_simp
                                                      with_reducible rfl
                                                    rotate_left
                                                    · simp only [Act.put, List.setIfInBounds_toArray, List.set_cons_zero, List.set_cons_succ, i64_w, i32_w]
                                                      rfl
                                                    refine take_ (i := 3) (N := some 55) (v := ?_) (a' := ?_) #[true, true, true, true, true, true, true, false, true, true, true, false, false, false] rfl rfl (take_ofW HT_.out HW_.out (by kernel_rfl)) (fun _ _ _ h => h) (Or.inl ⟨by rfl, ?_⟩) hHeld ?_ ?_
                                                    rotate_left
                                                    · rintro w' ⟨s0, s1, s2, s3, s4, s5, s6, s7, s8, s9, s10, s11⟩
                                                      go_simp
                                                      with_reducible rfl
                                                    rotate_left
                                                    · simp only [Act.put, List.setIfInBounds_toArray, List.set_cons_zero, List.set_cons_succ, i64_w, i32_w]
                                                      rfl
                                                    refine take_ (i := 7) (N := some 59) (v := ?_) (a' := ?_) #[true, true, true, true, true, true, true, true, true, true, true, false, false, false] rfl rfl (take_ofW HT_.out HW_.out (by kernel_rfl)) (fun _ _ _ h => h) (Or.inl ⟨by rfl, ?_⟩) hHeld ?_ ?_
                                                    rotate_left
                                                    · rintro w' ⟨s0, s1, s2, s3, s4, s5, s6, s7, s8, s9, s10, s11⟩
                                                      go_simp
                                                      with_reducible rfl
                                                    rotate_left
                                                    · simp only [Act.put, List.setIfInBounds_toArray, List.set_cons_zero, List.set_cons_succ, i64_w, i32_w]
                                                      rfl
                                                    refine take_ (i := 11) (N := some 63) (v := ?_) (a' := ?_) #[true, true, true, true, true, true, true, true, true, true, true, true, false, false] rfl rfl (take_ofW HT_.out HW_.out (by kernel_rfl)) (fun _ _ _ h => h) (Or.inl ⟨by rfl, ?_⟩) hHeld ?_ ?_
                                                    rotate_left
                                                    · rintro w' ⟨s0, s1, s2, s3, s4, s5, s6, s7, s8, s9, s10, s11⟩
                                                      go_simp
                                                      with_reducible rfl
                                                    rotate_left
                                                    · simp only [Act.put, List.setIfInBounds_toArray, List.set_cons_zero, List.set_cons_succ, i64_w, i32_w]
                                                      rfl
                                                    refine one_ (i := 12) (N := some 64) #[true, true, true, true, true, true, true, true, true, true, true, true, true, false] rfl rfl (one_of HT_.out (by kernel_rfl)) (by decide) (fun K hK => ?_)
                                                    refine goes_ Try.func119 (by kernel_rfl) rfl #[.agg #[.int .i64 ((rd_T38 l0 x4_1).f0), .int .i64 ((rd_T38 l0 x4_1).f1), .int .i64 ((rd_T38 l0 x4_1).f2), .int .i64 ((rd_T38 l0 x4_1).f3)], .agg #[.int .i64 ((rd_T38 l0 x5_4).f0), .int .i64 ((rd_T38 l0 x5_4).f1), .int .i64 ((rd_T38 l0 x5_4).f2), .int .i64 ((rd_T38 l0 x5_4).f3)], .agg #[.int .i64 ((rd_T38 l0 x6_6).f0), .int .i64 ((rd_T38 l0 x6_6).f1), .int .i64 ((rd_T38 l0 x6_6).f2), .int .i64 ((rd_T38 l0 x6_6).f3)]] (by rfl) rfl rfl (by (try simp only [List.map_toArray, List.map_cons, List.map_nil]); first | done | rfl | (simp only [List.length_drop, List.length_take]; rfl)) ?_
                                                    with_reducible refine (spec_l4Det3.calls ((rd_T38 l0 x4_1).f0) ((rd_T38 l0 x4_1).f1) ((rd_T38 l0 x4_1).f2) ((rd_T38 l0 x4_1).f3) ((rd_T38 l0 x5_4).f0) ((rd_T38 l0 x5_4).f1) ((rd_T38 l0 x5_4).f2) ((rd_T38 l0 x5_4).f3) ((rd_T38 l0 x6_6).f0) ((rd_T38 l0 x6_6).f1) ((rd_T38 l0 x6_6).f2) ((rd_T38 l0 x6_6).f3) t896 _ A26.out).mono ?_
                                                    rintro e w31 ⟨rfl, hb⟩
                                                    refine ⟨_, rfl, ?_⟩
                                                    have n0_ := Aside0.mk (below_step (by repeat (first | (with_reducible first | exact HB.out | apply below_alloc | apply pw_below_drewN | apply below_drew1) | exact HB.out)) hb)
                                                    clear HB
                                                    have HB := n0_
                                                    clear n0_
                                                    (try clear hb)
                                                    (try clear hb2)
                                                    (try clear hk)
                                                    (try clear hi)
                                                    refine hK.out _ _ ⟨((HB.out.cell (World.block_lt_of_cell? w _ hw893_0)).trans hw893_0), ((HB.out.cell (World.block_lt_of_cell? w _ hw893_1)).trans hw893_1), ((HB.out.cell (World.block_lt_of_cell? w _ hw893_2)).trans hw893_2), ((HB.out.cell (World.block_lt_of_cell? w _ hw893_3)).trans hw893_3), ((HB.out.cell (World.block_lt_of_cell? w _ hw894_0)).trans hw894_0), ((HB.out.cell (World.block_lt_of_cell? w _ hw894_1)).trans hw894_1), ((HB.out.cell (World.block_lt_of_cell? w _ hw894_2)).trans hw894_2), ((HB.out.cell (World.block_lt_of_cell? w _ hw894_3)).trans hw894_3), ((HB.out.cell (World.block_lt_of_cell? w _ hw895_0)).trans hw895_0), ((HB.out.cell (World.block_lt_of_cell? w _ hw895_1)).trans hw895_1), ((HB.out.cell (World.block_lt_of_cell? w _ hw895_2)).trans hw895_2), ((HB.out.cell (World.block_lt_of_cell? w _ hw895_3)).trans hw895_3)⟩ (fun hHeld => ?_)
                                                    clear hK K
                                                    refine norm_ (a' := ?_) ?_ ?_
                                                    rotate_left
                                                    · show Act.put _ (some 64) _ = _
                                                      simp only [Act.put, List.setIfInBounds_toArray, List.set_cons_zero, List.set_cons_succ, i64_w, i32_w]
                                                      rfl
                                                    refine pure_ (i := 13) (N := some 65) (v := ?_) (a' := ?_) #[true, true, true, true, true, true, true, true, true, true, true, true, true, true] rfl rfl (any_of HT_.out (by kernel_rfl)) (fun _ _ _ h => h) (Or.inl ⟨by rfl, ?_⟩) ?_ ?_
                                                    rotate_left
                                                    · intro w'
                                                      go_simp
                                                      with_reducible rfl
                                                    rotate_left
                                                    · simp only [Act.put, List.setIfInBounds_toArray, List.set_cons_zero, List.set_cons_succ, i64_w, i32_w]
                                                      rfl
                                                    refine done_ (done_of HT_.out (by kernel_rfl)) ?_
                                                    try go_wp2
                                                    go_ret
                                                    exact ⟨by first | rfl | (simp [errW_none, errW_some] <;> rfl) | (simp [*, errW_none, errW_some] <;> rfl), by repeat (first | (with_reducible first | exact HB.out | apply below_alloc | apply pw_below_drewN | apply below_drew1) | exact HB.out)⟩
                                                · rw [if_neg c25] at H
                                                  exact absurd H (by simp)
                                              · rw [if_neg c24] at H
                                                exact absurd H (by simp)
                                            · rw [if_neg c23] at H
                                              exact absurd H (by simp)
                                          · rw [if_neg c22] at H
                                            exact absurd H (by simp)
                                        · rw [if_neg c21] at H
                                          exact absurd H (by simp)
                                      · rw [if_neg c20] at H
                                        have c20b0 : decide (x6_6 < (l0.length : Int)) = false := decide_eq_false c20
                                        clear c20
                                        have H' := Aside0.mk H
                                        clear H
                                        go_wp2
                                        go_roundg k6
                                        case measure => have := HK1.out; have := HJ2.out; have := HJ5.out; have := HK4.out; have := HJ15.out; have := HK6.out; omega
                                        case rel => exact ⟨(x3_15), (wrap64 (x5_4 + 1)), (by first | rfl | (simp; done) | (simp [*]; done) | (simp [wrap64]; done)), (by first | rfl | (simp; done) | (simp [*]; done) | (simp [wrap64]; done)), H', ⟨by have := HK1.out; have := HJ2.out; have := HJ5.out; have := HK4.out; have := HJ15.out; have := HK6.out; omega⟩, ⟨by repeat (first | (with_reducible first | exact HB.out | apply below_alloc | apply pw_below_drewN | apply below_drew1) | exact HB.out)⟩⟩
                          · rw [if_neg c11] at H
                            exact absurd H (by simp)
                        · rw [if_neg c10] at H
                          exact absurd H (by simp)
                      · rw [if_neg c9] at H
                        exact absurd H (by simp)
                    · rw [if_neg c8] at H
                      have c8b0 : decide (x5_4 < (l0.length : Int)) = false := decide_eq_false c8
                      clear c8
                      have H' := Aside0.mk H
                      clear H
                      go_wp2
                      go_roundg k4
                      case measure => have := HK1.out; have := HJ2.out; have := HJ5.out; have := HK4.out; omega
                      case rel => exact ⟨(x3_4), (wrap64 (x4_1 + 1)), (by first | rfl | (simp; done) | (simp [*]; done) | (simp [wrap64]; done)), (by first | rfl | (simp; done) | (simp [*]; done) | (simp [wrap64]; done)), H', ⟨by have := HK1.out; have := HJ2.out; have := HJ5.out; have := HK4.out; omega⟩, ⟨by repeat (first | (with_reducible first | exact HB.out | apply below_alloc | apply pw_below_drewN | apply below_drew1) | exact HB.out)⟩⟩
      · rw [if_neg c2] at H
        have c2b0 : decide (x4_1 < (l0.length : Int)) = false := decide_eq_false c2
        clear c2
        obtain rfl := Option.some.inj H
        go_wp2
        go_ret
        exact ⟨by first | rfl | (simp [errW_none, errW_some] <;> rfl) | (simp [*, errW_none, errW_some] <;> rfl), by repeat (first | (with_reducible first | exact HB.out | apply below_alloc | apply pw_below_drewN | apply below_drew1) | exact HB.out)⟩

end Go.Proofs.Ytmcjkdbegkdhoaa.Print
