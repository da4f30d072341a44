-- Printed by a program of the session (mkprinter.py, over the kit's print); Lean checks it.
import Derived.Test.YtndedincanmaeaaCp
import Derived.Test.YtndedincanmaeaaPrint0
import Derived.Test.YtndedincanmaeaaPrint1
import Derived.Test.YtndedincanmaeaaPrint9
import Derived.Test.YtndedincanmaeaaPrint10
import Derived.Test.YtndedincanmaeaaPrint23
namespace Go.Proofs.Ytndedincanmaeaa.Print
open Go.RowKit Go.Proofs.YtndedincanmaeaaW.PrintWords Go.Proofs.YtndedincanmaeaaW.PrintLast Go.Proofs.Ytndedincanmaeaa.Cp
set_option linter.unusedVariables false
set_option linter.unusedSimpArgs false

attribute [local go_sem high] eqA23
/-! ### spec_l7Needed: function 112 -/
mutual
def spec_l7Needed.l0 : Nat → List (S23) → List Int → Int → Option (List Int)
 | 0, _, _, _ => none
 | k + 1, x0, x3, x4 => if x4 < (x0.length : Int) then (spec_l7Needed.l1 k x0 x3 x4 (([] : List (S23))) true 0) else (some x3)
def spec_l7Needed.l1 : Nat → List (S23) → List Int → Int → List (S23) → Bool → Int → Option (List Int)
 | 0, _, _, _, _, _, _ => none
 | k + 1, x0, x3, x4, x5, x6, x7 => if x7 < (x0.length : Int) then (if x7 = x4 then (spec_l7Needed.j2 k x0 x3 x4 x5 x6 x7 true) else (if 0 ≤ x7 then (if 0 ≤ x4 then (if x4 < (x0.length : Int) then (spec_l7Needed.j2 k x0 x3 x4 x5 x6 x7 (((rd_T23 x0 x7).f0) == ((rd_T23 x0 x4).f0) && (((rd_T23 x0 x7).f1) == ((rd_T23 x0 x4).f1) && (((rd_T23 x0 x7).f2) == ((rd_T23 x0 x4).f2) && (((rd_T23 x0 x7).f3) == ((rd_T23 x0 x4).f3)))))) else (none)) else (none)) else (none))) else (if x6 = true then (if 0 ≤ x4 then (if x4 < (x0.length : Int) then ((spec_l3Flip.f ((rd_T23 x0 x4).f0) ((rd_T23 x0 x4).f1) ((rd_T23 x0 x4).f2) ((rd_T23 x0 x4).f3)).bind fun bt686 => ((spec_l6With.f k x5 bt686.1 bt686.2.1 bt686.2.2.1 bt686.2.2.2).bind fun t690 => (spec_l7Needed.j3 k x0 x3 x4 (!t690)))) else (none)) else (none)) else (spec_l7Needed.j3 k x0 x3 x4 false))
def spec_l7Needed.j2 : Nat → List (S23) → List Int → Int → List (S23) → Bool → Int → Bool → Option (List Int)
 | 0, _, _, _, _, _, _, _ => none
 | k + 1, x0, x3, x4, x5, x6, x7, x35 => if x35 = true then (if x6 = true then (spec_l7Needed.l1 k x0 x3 x4 x5 (decide (x7 ≥ x4)) (wrap64 (x7 + 1))) else (spec_l7Needed.l1 k x0 x3 x4 x5 false (wrap64 (x7 + 1)))) else (if 0 ≤ x7 then (if x7 < (x0.length : Int) then (if x5.length < 4398046511104 then (spec_l7Needed.l1 k x0 x3 x4 (x5 ++ [(⟨(rd_T23 x0 x7).f0, (rd_T23 x0 x7).f1, (rd_T23 x0 x7).f2, (rd_T23 x0 x7).f3⟩ : S23)]) x6 (wrap64 (x7 + 1))) else (none)) else (none)) else (none))
def spec_l7Needed.j3 : Nat → List (S23) → List Int → Int → Bool → Option (List Int)
 | 0, _, _, _, _ => none
 | k + 1, x0, x3, x4, x59 => if x59 = true then (if x3.length < 17592186044416 then (spec_l7Needed.l0 k x0 (x3 ++ [x4]) (wrap64 (x4 + 1))) else (none)) else (spec_l7Needed.l0 k x0 x3 (wrap64 (x4 + 1)))
end
def spec_l7Needed.f (k : Nat) (l0 : List (S23)) : Option (List Int) := spec_l7Needed.l0 k l0 (([] : List Int)) 0
theorem spec_l7Needed.mono_l : ∀ k, (∀ y0 y1 y2, LeO (spec_l7Needed.l0 k y0 y1 y2) (spec_l7Needed.l0 (k + 1) y0 y1 y2)) ∧ (∀ y0 y1 y2 y3 y4 y5, LeO (spec_l7Needed.l1 k y0 y1 y2 y3 y4 y5) (spec_l7Needed.l1 (k + 1) y0 y1 y2 y3 y4 y5)) ∧ (∀ y0 y1 y2 y3 y4 y5 y6, LeO (spec_l7Needed.j2 k y0 y1 y2 y3 y4 y5 y6) (spec_l7Needed.j2 (k + 1) y0 y1 y2 y3 y4 y5 y6)) ∧ (∀ y0 y1 y2 y3, LeO (spec_l7Needed.j3 k y0 y1 y2 y3) (spec_l7Needed.j3 (k + 1) y0 y1 y2 y3))
 | 0 => ⟨fun _ _ _ r h => by simp [spec_l7Needed.l0] at h, fun _ _ _ _ _ _ r h => by simp [spec_l7Needed.l1] at h, fun _ _ _ _ _ _ _ r h => by simp [spec_l7Needed.j2] at h, fun _ _ _ _ r h => by simp [spec_l7Needed.j3] at h⟩
 | k + 1 => by
  obtain ⟨ih0, ih1, ih2, ih3⟩ := spec_l7Needed.mono_l k
  refine ⟨?_, ?_, ?_, ?_⟩
  ·intro y0 y1 y2
   unfold spec_l7Needed.l0
   repeat' first
   | (with_reducible exact ih0 _ _ _)
   | (with_reducible exact ih1 _ _ _ _ _ _)
   | (with_reducible exact ih2 _ _ _ _ _ _ _)
   | (with_reducible exact ih3 _ _ _ _)
   | (with_reducible exact spec_l6With.mono _ _ _ _ _ _)
   | (with_reducible exact LeO.refl _)
   | (with_reducible exact LeO.none _)
   | (with_reducible refine LeO.ite ?_ ?_)
   | (with_reducible refine LeO.bind ?_ (fun _ => ?_))
   | exact ih0 _ _ _
   | exact ih1 _ _ _ _ _ _
   | exact ih2 _ _ _ _ _ _ _
   | exact ih3 _ _ _ _
   | exact spec_l6With.mono _ _ _ _ _ _
   | exact LeO.none _
   | refine LeO.ite ?_ ?_
   | refine LeO.bind ?_ (fun _ => ?_)
  ·intro y0 y1 y2 y3 y4 y5
   unfold spec_l7Needed.l1
   repeat' first
   | (with_reducible exact ih0 _ _ _)
   | (with_reducible exact ih1 _ _ _ _ _ _)
   | (with_reducible exact ih2 _ _ _ _ _ _ _)
   | (with_reducible exact ih3 _ _ _ _)
   | (with_reducible exact spec_l6With.mono _ _ _ _ _ _)
   | (with_reducible exact LeO.refl _)
   | (with_reducible exact LeO.none _)
   | (with_reducible refine LeO.ite ?_ ?_)
   | (with_reducible refine LeO.bind ?_ (fun _ => ?_))
   | exact ih0 _ _ _
   | exact ih1 _ _ _ _ _ _
   | exact ih2 _ _ _ _ _ _ _
   | exact ih3 _ _ _ _
   | exact spec_l6With.mono _ _ _ _ _ _
   | exact LeO.none _
   | refine LeO.ite ?_ ?_
   | refine LeO.bind ?_ (fun _ => ?_)
  ·intro y0 y1 y2 y3 y4 y5 y6
   unfold spec_l7Needed.j2
   repeat' first
   | (with_reducible exact ih0 _ _ _)
   | (with_reducible exact ih1 _ _ _ _ _ _)
   | (with_reducible exact ih2 _ _ _ _ _ _ _)
   | (with_reducible exact ih3 _ _ _ _)
   | (with_reducible exact spec_l6With.mono _ _ _ _ _ _)
   | (with_reducible exact LeO.refl _)
   | (with_reducible exact LeO.none _)
   | (with_reducible refine LeO.ite ?_ ?_)
   | (with_reducible refine LeO.bind ?_ (fun _ => ?_))
   | exact ih0 _ _ _
   | exact ih1 _ _ _ _ _ _
   | exact ih2 _ _ _ _ _ _ _
   | exact ih3 _ _ _ _
   | exact spec_l6With.mono _ _ _ _ _ _
   | exact LeO.none _
   | refine LeO.ite ?_ ?_
   | refine LeO.bind ?_ (fun _ => ?_)
  intro y0 y1 y2 y3
  unfold spec_l7Needed.j3
  repeat' first
  | (with_reducible exact ih0 _ _ _)
  | (with_reducible exact ih1 _ _ _ _ _ _)
  | (with_reducible exact ih2 _ _ _ _ _ _ _)
  | (with_reducible exact ih3 _ _ _ _)
  | (with_reducible exact spec_l6With.mono _ _ _ _ _ _)
  | (with_reducible exact LeO.refl _)
  | (with_reducible exact LeO.none _)
  | (with_reducible refine LeO.ite ?_ ?_)
  | (with_reducible refine LeO.bind ?_ (fun _ => ?_))
  | exact ih0 _ _ _
  | exact ih1 _ _ _ _ _ _
  | exact ih2 _ _ _ _ _ _ _
  | exact ih3 _ _ _ _
  | exact spec_l6With.mono _ _ _ _ _ _
  | exact LeO.none _
  | refine LeO.ite ?_ ?_
  | refine LeO.bind ?_ (fun _ => ?_)
theorem spec_l7Needed.mono : ∀ a0 k, LeO (spec_l7Needed.f k a0) (spec_l7Needed.f (k + 1) a0) := by
 intro a0 k
 obtain ⟨ih0, ih1, ih2, ih3⟩ := spec_l7Needed.mono_l k
 unfold spec_l7Needed.f
 repeat' first
   | (with_reducible exact ih0 _ _ _)
   | (with_reducible exact ih1 _ _ _ _ _ _)
   | (with_reducible exact ih2 _ _ _ _ _ _ _)
   | (with_reducible exact ih3 _ _ _ _)
   | (with_reducible exact spec_l6With.mono _ _ _ _ _ _)
   | (with_reducible exact LeO.refl _)
   | (with_reducible exact LeO.none _)
   | (with_reducible refine LeO.ite ?_ ?_)
   | (with_reducible refine LeO.bind ?_ (fun _ => ?_))
   | exact ih0 _ _ _
   | exact ih1 _ _ _ _ _ _
   | exact ih2 _ _ _ _ _ _ _
   | exact ih3 _ _ _ _
   | exact spec_l6With.mono _ _ _ _ _ _
   | exact LeO.none _
   | refine LeO.ite ?_ ?_
   | refine LeO.bind ?_ (fun _ => ?_)
set_option maxHeartbeats 8000000 in
set_option maxRecDepth 100000 in
theorem spec_l7Needed.calls (k : Nat) (A0 : Option Addr) (c0 : Nat) (l0 : List (S23)) (r : List Int) (w : World) (hr0 : Kd.C k23 w A0 l0.length l0) (hc0 : l0.length ≤ c0) (h : spec_l7Needed.f k l0 = some r) :
  Calls Try.prog 112 #[.slice A0 l0.length c0] w fun e w' => ∃ v0_ : Value, e = .returned (v0_) ∧ Kd.R (Kd.int .i64) 3 w' w.heap.size (fun _ => True) v0_ r ∧ Below w.heap.size w w' := by
 have hu23 := Try.underlying23
 have HR0 := Aside0.mk hr0
 have HC0 := Aside0.mk hc0
 clear hr0 hc0
 have HB := Aside0.mk (Below.refl w.heap.size w)
 have H : (spec_l7Needed.l0 k l0 (([] : List Int)) 0) = some r := h
 clear h
 obtain ⟨y673, hy673⟩ : ∃ y_ : List Int, y_ = (([] : List Int)) := ⟨_, rfl⟩
 replace H : (spec_l7Needed.l0 k l0 y673 0) = some r := by first | (rw [hy673]; with_reducible exact H) | (have H2_ := (Option.bind_some _ _).symm.trans H; rw [hy673]; with_reducible exact H2_) | (have H2_ := (Option.bind_some _ _).symm.trans H; with_reducible exact H2_) | with_reducible exact H | (rw [hy673]; exact H) | exact H
 have Ny673 := Aside0.mk hy673
 clear hy673
 have H' := Aside0.mk H
 clear H
 go_enter Try.func112, Try.ntmps112
 go_wp2_with (first | ((with_reducible refine gate_dst (N := 8) rfl ?_); refine Kd.R_lit (Kd.int .i64) _ 3 ?hg (N := 8) ?hd (xs := ([] : List Int)) (inner := []) (ok := fun _ => True) (okp := fun _ => True) ?hr ?hp (fun _ hk => hk) trivial (Below.refl _ _) (Nat.le_refl _) (by simp) ?_; (case hd => rfl); (case hg => rfl); (case hr => first | (go_simp; done) | (go_simp; rfl)); (case hp => exact (Reps.none _ _)); intro v674 w2 ho3 hb hg_ hnew_; clear hg_ hnew_; (first | rw [← Ny673.out] at ho3 | (simp only [Int.reduceToNat] at ho3; rw [← Ny673.out] at ho3)); have HO675 := Aside0.mk (Kd.R_lower ho3 (below_size (hbx HB))); replace HB := bt HB hb; clear hb ho3))
 repeat (go_quiet (first | ((with_reducible refine gate_dst (N := 8) rfl ?_); refine Kd.R_lit (Kd.int .i64) _ 3 ?hg (N := 8) ?hd (xs := ([] : List Int)) (inner := []) (ok := fun _ => True) (okp := fun _ => True) ?hr ?hp (fun _ hk => hk) trivial (Below.refl _ _) (Nat.le_refl _) (by simp) ?_; (case hd => rfl); (case hg => rfl); (case hr => first | (go_simp; done) | (go_simp; rfl)); (case hp => exact (Reps.none _ _)); intro v674 w2 ho3 hb hg_ hnew_; clear hg_ hnew_; (first | rw [← Ny673.out] at ho3 | (simp only [Int.reduceToNat] at ho3; rw [← Ny673.out] at ho3)); have HO675 := Aside0.mk (Kd.R_lower ho3 (below_size (hbx HB))); replace HB := bt HB hb; clear hb ho3)); try go_wp2_with (first | ((with_reducible refine gate_dst (N := 8) rfl ?_); refine Kd.R_lit (Kd.int .i64) _ 3 ?hg (N := 8) ?hd (xs := ([] : List Int)) (inner := []) (ok := fun _ => True) (okp := fun _ => True) ?hr ?hp (fun _ hk => hk) trivial (Below.refl _ _) (Nat.le_refl _) (by simp) ?_; (case hd => rfl); (case hg => rfl); (case hr => first | (go_simp; done) | (go_simp; rfl)); (case hp => exact (Reps.none _ _)); intro v674 w2 ho3 hb hg_ hnew_; clear hg_ hnew_; (first | rw [← Ny673.out] at ho3 | (simp only [Int.reduceToNat] at ho3; rw [← Ny673.out] at ho3)); have HO675 := Aside0.mk (Kd.R_lower ho3 (below_size (hbx HB))); replace HB := bt HB hb; clear hb ho3)))
 go_loopg [3, 4] k (fun kq v3 v4 w' => ∃ (x3_1 : List Int) (x4_1 : Int), v4 = .int .i64 x4_1 ∧ Aside0 (spec_l7Needed.l0 kq l0 x3_1 x4_1 = some r) ∧ Aside0 (kq ≤ k) ∧ Aside0 (Kd.R (Kd.int .i64) 3 w' w.heap.size (fun _ => True) v3 x3_1) ∧ Aside0 (Below w.heap.size w w'))
 case atStart => exact ⟨(y673), (0), re, H', ⟨Nat.le_refl _⟩, ⟨by (with_reducible repeat (first | apply Kd.R_alloc | apply Kd.R_drewN | apply Kd.R_drew)); exact HO675.out⟩, ⟨by repeat (first | (with_reducible first | exact HB.out | apply below_alloc | apply pw_below_drewN | apply below_drew1) | exact HB.out)⟩⟩
 case round =>
  clear H'
  obtain ⟨x3_1, x4_1, rfl, HA, HK1, HO_3, HB⟩ := hrel
  cases gk with
  | zero => exact absurd HA.out (by simp [spec_l7Needed.l0])
  | succ k1 =>
   have H := HA.out
   clear HA
   simp only [spec_l7Needed.l0] at H
   by_cases c4 : x4_1 < (l0.length : Int)
   ·rw [if_pos c4] at H
    have c4b0 : decide (x4_1 < (l0.length : Int)) = true := decide_eq_true c4
    clear c4
    obtain ⟨y676, hy676⟩ : ∃ y_ : List (S23), y_ = (([] : List (S23))) := ⟨_, rfl⟩
    replace H : (spec_l7Needed.l1 k1 l0 x3_1 x4_1 y676 true 0) = some r := by first | (rw [hy676]; with_reducible exact H) | (have H2_ := (Option.bind_some _ _).symm.trans H; rw [hy676]; with_reducible exact H2_) | (have H2_ := (Option.bind_some _ _).symm.trans H; with_reducible exact H2_) | with_reducible exact H | (rw [hy676]; exact H) | exact H
    have Ny676 := Aside0.mk hy676
    clear hy676
    have H' := Aside0.mk H
    clear H
    go_wp2_with (first | ((with_reducible refine gate_dst (N := 15) rfl ?_); refine Kd.R_lit k23 _ 23 ?hg (N := 15) ?hd (xs := ([] : List (S23))) (inner := []) (ok := fun _ => True) (okp := fun _ => True) ?hr ?hp (fun _ hk => hk) trivial (Below.refl _ _) (Nat.le_refl _) (by simp) ?_; (case hd => rfl); (case hg => rfl); (case hr => first | (go_simp; done) | (go_simp; rfl)); (case hp => exact (Reps.none _ _)); intro v677 w5 ho6 hb hg_ hnew_; clear hg_ hnew_; (first | rw [← Ny676.out] at ho6 | (simp only [Int.reduceToNat] at ho6; rw [← Ny676.out] at ho6)); replace HO_3 := Aside0.mk (Kd.R_below (by (with_reducible repeat (first | apply Kd.R_alloc | apply Kd.R_drewN | apply Kd.R_drew)); exact HO_3.out) hb); have HO678 := Aside0.mk (Kd.R_lower ho6 (below_size (hbx HB))); replace HB := bt HB hb; clear hb ho6))
    repeat (go_quiet (first | ((with_reducible refine gate_dst (N := 15) rfl ?_); refine Kd.R_lit k23 _ 23 ?hg (N := 15) ?hd (xs := ([] : List (S23))) (inner := []) (ok := fun _ => True) (okp := fun _ => True) ?hr ?hp (fun _ hk => hk) trivial (Below.refl _ _) (Nat.le_refl _) (by simp) ?_; (case hd => rfl); (case hg => rfl); (case hr => first | (go_simp; done) | (go_simp; rfl)); (case hp => exact (Reps.none _ _)); intro v677 w5 ho6 hb hg_ hnew_; clear hg_ hnew_; (first | rw [← Ny676.out] at ho6 | (simp only [Int.reduceToNat] at ho6; rw [← Ny676.out] at ho6)); replace HO_3 := Aside0.mk (Kd.R_below (by (with_reducible repeat (first | apply Kd.R_alloc | apply Kd.R_drewN | apply Kd.R_drew)); exact HO_3.out) hb); have HO678 := Aside0.mk (Kd.R_lower ho6 (below_size (hbx HB))); replace HB := bt HB hb; clear hb ho6)); try go_wp2_with (first | ((with_reducible refine gate_dst (N := 15) rfl ?_); refine Kd.R_lit k23 _ 23 ?hg (N := 15) ?hd (xs := ([] : List (S23))) (inner := []) (ok := fun _ => True) (okp := fun _ => True) ?hr ?hp (fun _ hk => hk) trivial (Below.refl _ _) (Nat.le_refl _) (by simp) ?_; (case hd => rfl); (case hg => rfl); (case hr => first | (go_simp; done) | (go_simp; rfl)); (case hp => exact (Reps.none _ _)); intro v677 w5 ho6 hb hg_ hnew_; clear hg_ hnew_; (first | rw [← Ny676.out] at ho6 | (simp only [Int.reduceToNat] at ho6; rw [← Ny676.out] at ho6)); replace HO_3 := Aside0.mk (Kd.R_below (by (with_reducible repeat (first | apply Kd.R_alloc | apply Kd.R_drewN | apply Kd.R_drew)); exact HO_3.out) hb); have HO678 := Aside0.mk (Kd.R_lower ho6 (below_size (hbx HB))); replace HB := bt HB hb; clear hb ho6)))
    go_loopg [5, 6, 7] k1 (fun kq v5 v6 v7 w' => ∃ (x5_2 : List (S23)) (x6_2 : Bool) (x7_2 : Int), v6 = .bool x6_2 ∧ v7 = .int .i64 x7_2 ∧ Aside0 (spec_l7Needed.l1 kq l0 x3_1 x4_1 x5_2 x6_2 x7_2 = some r) ∧ Aside0 (kq ≤ k1) ∧ Aside0 (Kd.R (Kd.int .i64) 3 w' w.heap.size (fun _ => True) u3 x3_1) ∧ Aside0 (Kd.R k23 23 w' w.heap.size (fun _ => True) v5 x5_2) ∧ Aside0 (Below w.heap.size w w'))
    case atStart => exact ⟨(y676), (true), (0), re, re, H', ⟨Nat.le_refl _⟩, ⟨by (with_reducible repeat (first | apply Kd.R_alloc | apply Kd.R_drewN | apply Kd.R_drew)); exact HO_3.out⟩, ⟨by (with_reducible repeat (first | apply Kd.R_alloc | apply Kd.R_drewN | apply Kd.R_drew)); exact HO678.out⟩, ⟨by repeat (first | (with_reducible first | exact HB.out | apply below_alloc | apply pw_below_drewN | apply below_drew1) | exact HB.out)⟩⟩
    case round =>
     clear H'
     obtain ⟨x5_2, x6_2, x7_2, rfl, rfl, HA, HK2, HO_3, HO_5, HB⟩ := hrel
     cases gk with
     | zero => exact absurd HA.out (by simp [spec_l7Needed.l1])
     | succ k2 =>
      have H := HA.out
      clear HA
      simp only [spec_l7Needed.l1] at H
      by_cases c7 : x7_2 < (l0.length : Int)
      ·rw [if_pos c7] at H
       have c7b0 : decide (x7_2 < (l0.length : Int)) = true := decide_eq_true c7
       clear c7
       have HC8 := Aside0.mk H
       clear H
       go_upto_region 10 with (fail)
       repeat (go_quiet (fail); go_upto_region 10 with (fail))
       go_cut [35] (fun v35 wc => ∃ (kq : Nat) (x35_7 : Bool), v35 = .bool x35_7 ∧ Aside0 (spec_l7Needed.j2 kq l0 x3_1 x4_1 x5_2 x6_2 x7_2 x35_7 = some r) ∧ Aside0 (kq ≤ k2) ∧ Aside0 (Kd.R (Kd.int .i64) 3 wc w.heap.size (fun _ => True) u3 x3_1) ∧ Aside0 (Kd.R k23 23 wc w.heap.size (fun _ => True) u5 x5_2) ∧ Aside0 (Below w.heap.size w wc))
       case first =>
        have H := HC8.out
        clear HC8
        by_cases c9 : x7_2 = x4_1
        ·rw [if_pos c9] at H
         have c9b0 : (x7_2 == x4_1) = true := beq_iff_eq.mpr c9
         have c9b1 : (x7_2 != x4_1) = false := bne_eq_false_iff_eq.mpr c9
         clear c9
         (first | rw [c9b0] | (simp only [i64_w, i32_w]; rw [c9b0]) | skip)
         have H' := Aside0.mk H
         clear H
         go_wp2
         repeat (go_quiet (fail); try go_wp2)
         go_meet
         case rel => exact ⟨_, (true), re, H', ⟨by have := HK1.out; have := HK2.out; first | omega | exact Nat.le_refl _⟩, ⟨by (with_reducible repeat (first | apply Kd.R_alloc | apply Kd.R_drewN | apply Kd.R_drew)); exact HO_3.out⟩, ⟨by (with_reducible repeat (first | apply Kd.R_alloc | apply Kd.R_drewN | apply Kd.R_drew)); exact HO_5.out⟩, ⟨by repeat (first | (with_reducible first | exact HB.out | apply below_alloc | apply pw_below_drewN | apply below_drew1) | exact HB.out)⟩⟩
        rw [if_neg c9] at H
        have c9b0 : (x7_2 == x4_1) = false := beq_eq_false_iff_ne.mpr c9
        have c9b1 : (x7_2 != x4_1) = true := bne_iff_ne.mpr c9
        (first | rw [c9b0] | (simp only [i64_w, i32_w]; rw [c9b0]) | skip)
        by_cases c10 : 0 ≤ x7_2
        ·rw [if_pos c10] at H
         have c10b0 : decide (0 ≤ x7_2) = true := decide_eq_true c10
         clear c10
         by_cases c11 : 0 ≤ x4_1
         ·rw [if_pos c11] at H
          have c11b0 : decide (0 ≤ x4_1) = true := decide_eq_true c11
          clear c11
          by_cases c12 : x4_1 < (l0.length : Int)
          ·rw [if_pos c12] at H
           have c12b0 : decide (x4_1 < (l0.length : Int)) = true := decide_eq_true c12
           clear c12
           have H' := Aside0.mk H
           clear H
           have p679 : 0 ≤ (x7_2 : Int) := dk
           have q679 : x7_2 < (l0.length : Int) := dk
           obtain ⟨ad679, e679, hx679_0, hx679_1, hx679_2, hx679_3⟩ := at_T23 HR0.out x7_2 p679 q679
           cases e679
           replace hx679_0 := hc HB hx679_0
           replace hx679_1 := hc HB hx679_1
           replace hx679_2 := hc HB hx679_2
           replace hx679_3 := hc HB hx679_3
           replace p679 := eq_true p679
           replace q679 := eq_true q679
           have p680 : 0 ≤ (x4_1 : Int) := dk
           have q680 : x4_1 < (l0.length : Int) := dk
           obtain ⟨ad680, e680, hx680_0, hx680_1, hx680_2, hx680_3⟩ := at_T23 HR0.out x4_1 p680 q680
           obtain rfl : ad679 = ad680 := (by injection e680)
           replace hx680_0 := hc HB hx680_0
           replace hx680_1 := hc HB hx680_1
           replace hx680_2 := hc HB hx680_2
           replace hx680_3 := hc HB hx680_3
           replace p680 := eq_true p680
           replace q680 := eq_true q680
           go_wp2
           repeat (go_quiet (fail); try go_wp2)
           go_meet
           case rel => exact ⟨_, ((((rd_T23 l0 x7_2).f0) == ((rd_T23 l0 x4_1).f0) && (((rd_T23 l0 x7_2).f1) == ((rd_T23 l0 x4_1).f1) && (((rd_T23 l0 x7_2).f2) == ((rd_T23 l0 x4_1).f2) && (((rd_T23 l0 x7_2).f3) == ((rd_T23 l0 x4_1).f3)))))), re, H', ⟨by have := HK1.out; have := HK2.out; first | omega | exact Nat.le_refl _⟩, ⟨by (with_reducible repeat (first | apply Kd.R_alloc | apply Kd.R_drewN | apply Kd.R_drew)); exact HO_3.out⟩, ⟨by (with_reducible repeat (first | apply Kd.R_alloc | apply Kd.R_drewN | apply Kd.R_drew)); exact HO_5.out⟩, ⟨by repeat (first | (with_reducible first | exact HB.out | apply below_alloc | apply pw_below_drewN | apply below_drew1) | exact HB.out)⟩⟩
          rw [if_neg c12] at H
          exact absurd H (by simp)
         rw [if_neg c11] at H
         exact absurd H (by simp)
        rw [if_neg c10] at H
        exact absurd H (by simp)
       case rest =>
        clear HC8
        obtain ⟨kq, x35_7, rfl, HA, HJ7, HO_3, HO_5, HB⟩ := hcut
        cases kq with
        | zero => exact absurd HA.out (by simp [spec_l7Needed.j2])
        | succ kj7 =>
         have H := HA.out
         clear HA
         simp only [spec_l7Needed.j2] at H
         by_cases c13 : x35_7 = true
         ·subst c13
          have H1 : (if x6_2 = true then (spec_l7Needed.l1 kj7 l0 x3_1 x4_1 x5_2 (decide (x7_2 ≥ x4_1)) (wrap64 (x7_2 + 1))) else (spec_l7Needed.l1 kj7 l0 x3_1 x4_1 x5_2 false (wrap64 (x7_2 + 1)))) = some r := by rw [if_pos rfl] at H; exact H
          clear H
          have H := H1
          clear H1
          by_cases c14 : x6_2 = true
          ·subst c14
           have H1 : (spec_l7Needed.l1 kj7 l0 x3_1 x4_1 x5_2 (decide (x7_2 ≥ x4_1)) (wrap64 (x7_2 + 1))) = some r := by rw [if_pos rfl] at H; exact H
           clear H
           have H := H1
           clear H1
           have H' := Aside0.mk H
           clear H
           go_wp2
           repeat (go_quiet (fail); try go_wp2)
           go_roundg kj7
           case measure => have := HK1.out; have := HK2.out; have := HJ7.out; omega
           case rel => exact ⟨(x5_2), (decide (x7_2 ≥ x4_1)), (wrap64 (x7_2 + 1)), re, re, H', ⟨by have := HK1.out; have := HK2.out; have := HJ7.out; omega⟩, ⟨by (with_reducible repeat (first | apply Kd.R_alloc | apply Kd.R_drewN | apply Kd.R_drew)); exact HO_3.out⟩, ⟨by (with_reducible repeat (first | apply Kd.R_alloc | apply Kd.R_drewN | apply Kd.R_drew)); exact HO_5.out⟩, ⟨by repeat (first | (with_reducible first | exact HB.out | apply below_alloc | apply pw_below_drewN | apply below_drew1) | exact HB.out)⟩⟩
          replace c14 := Bool.eq_false_iff.mpr c14
          subst c14
          have H1 : (spec_l7Needed.l1 kj7 l0 x3_1 x4_1 x5_2 false (wrap64 (x7_2 + 1))) = some r := by rw [if_neg (show ¬ (false = true) by decide)] at H; exact H
          clear H
          have H := H1
          clear H1
          have H' := Aside0.mk H
          clear H
          go_wp2
          repeat (go_quiet (fail); try go_wp2)
          go_roundg kj7
          case measure => have := HK1.out; have := HK2.out; have := HJ7.out; omega
          case rel => exact ⟨(x5_2), (false), (wrap64 (x7_2 + 1)), re, re, H', ⟨by have := HK1.out; have := HK2.out; have := HJ7.out; omega⟩, ⟨by (with_reducible repeat (first | apply Kd.R_alloc | apply Kd.R_drewN | apply Kd.R_drew)); exact HO_3.out⟩, ⟨by (with_reducible repeat (first | apply Kd.R_alloc | apply Kd.R_drewN | apply Kd.R_drew)); exact HO_5.out⟩, ⟨by repeat (first | (with_reducible first | exact HB.out | apply below_alloc | apply pw_below_drewN | apply below_drew1) | exact HB.out)⟩⟩
         replace c13 := Bool.eq_false_iff.mpr c13
         subst c13
         have H1 : (if 0 ≤ x7_2 then (if x7_2 < (l0.length : Int) then (if x5_2.length < 4398046511104 then (spec_l7Needed.l1 kj7 l0 x3_1 x4_1 (x5_2 ++ [(⟨(rd_T23 l0 x7_2).f0, (rd_T23 l0 x7_2).f1, (rd_T23 l0 x7_2).f2, (rd_T23 l0 x7_2).f3⟩ : S23)]) x6_2 (wrap64 (x7_2 + 1))) else (none)) else (none)) else (none)) = some r := by rw [if_neg (show ¬ (false = true) by decide)] at H; exact H
         clear H
         have H := H1
         clear H1
         by_cases c15 : 0 ≤ x7_2
         ·rw [if_pos c15] at H
          have c15b0 : decide (0 ≤ x7_2) = true := decide_eq_true c15
          clear c15
          by_cases c16 : x7_2 < (l0.length : Int)
          ·rw [if_pos c16] at H
           have c16b0 : decide (x7_2 < (l0.length : Int)) = true := decide_eq_true c16
           clear c16
           by_cases c17 : x5_2.length < 4398046511104
           ·rw [if_pos c17] at H
            have LMc17 := Aside0.mk c17
            clear c17
            obtain ⟨y682, hy682⟩ : ∃ y_ : List (S23), y_ = (x5_2 ++ [(⟨(rd_T23 l0 x7_2).f0, (rd_T23 l0 x7_2).f1, (rd_T23 l0 x7_2).f2, (rd_T23 l0 x7_2).f3⟩ : S23)]) := ⟨_, rfl⟩
            replace H : (spec_l7Needed.l1 kj7 l0 x3_1 x4_1 y682 x6_2 (wrap64 (x7_2 + 1))) = some r := by first | (rw [hy682]; with_reducible exact H) | (have H2_ := (Option.bind_some _ _).symm.trans H; rw [hy682]; with_reducible exact H2_) | (have H2_ := (Option.bind_some _ _).symm.trans H; with_reducible exact H2_) | with_reducible exact H | (rw [hy682]; exact H) | exact H
            have Ny682 := Aside0.mk hy682
            clear hy682
            have H' := Aside0.mk H
            clear H
            have p681 : 0 ≤ (x7_2 : Int) := dk
            have q681 : x7_2 < (l0.length : Int) := dk
            obtain ⟨ad681, e681, hx681_0, hx681_1, hx681_2, hx681_3⟩ := at_T23 HR0.out x7_2 p681 q681
            cases e681
            replace hx681_0 := hc HB hx681_0
            replace hx681_1 := hc HB hx681_1
            replace hx681_2 := hc HB hx681_2
            replace hx681_3 := hc HB hx681_3
            replace p681 := eq_true p681
            replace q681 := eq_true q681
            go_wp2_with (first | ((with_reducible refine gate_builtin (b := .append) (xs := #[.tmp 42, .tmp 47]) rfl ?_); at_builtin; refine Kd.R_append k23 (w0 := w) w.heap.size rfl (.tmp 42) (.tmp 47) 53 23 (.agg #[(.int .i64 0), (.int .i64 0), (.int .i64 0), (.int .i64 0)]) 32 rfl Try.underlying53 info23 rfl (by decide) (by omega) u5 x5_2 (⟨(rd_T23 l0 x7_2).f0, (rd_T23 l0 x7_2).f1, (rd_T23 l0 x7_2).f2, (rd_T23 l0 x7_2).f3⟩ : S23) [.int .i64 ((rd_T23 l0 x7_2).f0), .int .i64 ((rd_T23 l0 x7_2).f1), .int .i64 ((rd_T23 l0 x7_2).f2), .int .i64 ((rd_T23 l0 x7_2).f3)] (fun _ => True) (fun _ => False) rfl rfl ?aP (fun _ hk => hk.elim) ?aF ?aO ?aB ?aS ?aL ?_; (case aP => exact k23_mkM _ _ _ (⟨(rd_T23 l0 x7_2).f0, (rd_T23 l0 x7_2).f1, (rd_T23 l0 x7_2).f2, (rd_T23 l0 x7_2).f3⟩ : S23)); (case aB => exact (hbx HB)); (case aF => exact (fun _ _ => trivial)); (case aO => exact (by (with_reducible repeat (first | apply Kd.R_alloc | apply Kd.R_drewN | apply Kd.R_drew)); exact HO_5.out)); (case aS => exact (below_size (hbx HB))); (case aL => have := LMc17.out; omega); intro v683 w18 ho hb hg hat; rw [← Ny682.out] at ho; replace HO_3 := Aside0.mk (Kd.R_over' (by (with_reducible repeat (first | apply Kd.R_alloc | apply Kd.R_drewN | apply Kd.R_drew)); exact HO_3.out) (Kd.R_typed (by (with_reducible repeat (first | apply Kd.R_alloc | apply Kd.R_drewN | apply Kd.R_drew)); exact HO_5.out)) (by decide) hg); have HO684 := Aside0.mk (ho); replace HB := Aside0.mk (hb); clear HO_5; clear ho hb hg hat))
            repeat (go_quiet (first | ((with_reducible refine gate_builtin (b := .append) (xs := #[.tmp 42, .tmp 47]) rfl ?_); at_builtin; refine Kd.R_append k23 (w0 := w) w.heap.size rfl (.tmp 42) (.tmp 47) 53 23 (.agg #[(.int .i64 0), (.int .i64 0), (.int .i64 0), (.int .i64 0)]) 32 rfl Try.underlying53 info23 rfl (by decide) (by omega) u5 x5_2 (⟨(rd_T23 l0 x7_2).f0, (rd_T23 l0 x7_2).f1, (rd_T23 l0 x7_2).f2, (rd_T23 l0 x7_2).f3⟩ : S23) [.int .i64 ((rd_T23 l0 x7_2).f0), .int .i64 ((rd_T23 l0 x7_2).f1), .int .i64 ((rd_T23 l0 x7_2).f2), .int .i64 ((rd_T23 l0 x7_2).f3)] (fun _ => True) (fun _ => False) rfl rfl ?aP (fun _ hk => hk.elim) ?aF ?aO ?aB ?aS ?aL ?_; (case aP => exact k23_mkM _ _ _ (⟨(rd_T23 l0 x7_2).f0, (rd_T23 l0 x7_2).f1, (rd_T23 l0 x7_2).f2, (rd_T23 l0 x7_2).f3⟩ : S23)); (case aB => exact (hbx HB)); (case aF => exact (fun _ _ => trivial)); (case aO => exact (by (with_reducible repeat (first | apply Kd.R_alloc | apply Kd.R_drewN | apply Kd.R_drew)); exact HO_5.out)); (case aS => exact (below_size (hbx HB))); (case aL => have := LMc17.out; omega); intro v683 w18 ho hb hg hat; rw [← Ny682.out] at ho; replace HO_3 := Aside0.mk (Kd.R_over' (by (with_reducible repeat (first | apply Kd.R_alloc | apply Kd.R_drewN | apply Kd.R_drew)); exact HO_3.out) (Kd.R_typed (by (with_reducible repeat (first | apply Kd.R_alloc | apply Kd.R_drewN | apply Kd.R_drew)); exact HO_5.out)) (by decide) hg); have HO684 := Aside0.mk (ho); replace HB := Aside0.mk (hb); clear HO_5; clear ho hb hg hat)); try go_wp2_with (first | ((with_reducible refine gate_builtin (b := .append) (xs := #[.tmp 42, .tmp 47]) rfl ?_); at_builtin; refine Kd.R_append k23 (w0 := w) w.heap.size rfl (.tmp 42) (.tmp 47) 53 23 (.agg #[(.int .i64 0), (.int .i64 0), (.int .i64 0), (.int .i64 0)]) 32 rfl Try.underlying53 info23 rfl (by decide) (by omega) u5 x5_2 (⟨(rd_T23 l0 x7_2).f0, (rd_T23 l0 x7_2).f1, (rd_T23 l0 x7_2).f2, (rd_T23 l0 x7_2).f3⟩ : S23) [.int .i64 ((rd_T23 l0 x7_2).f0), .int .i64 ((rd_T23 l0 x7_2).f1), .int .i64 ((rd_T23 l0 x7_2).f2), .int .i64 ((rd_T23 l0 x7_2).f3)] (fun _ => True) (fun _ => False) rfl rfl ?aP (fun _ hk => hk.elim) ?aF ?aO ?aB ?aS ?aL ?_; (case aP => exact k23_mkM _ _ _ (⟨(rd_T23 l0 x7_2).f0, (rd_T23 l0 x7_2).f1, (rd_T23 l0 x7_2).f2, (rd_T23 l0 x7_2).f3⟩ : S23)); (case aB => exact (hbx HB)); (case aF => exact (fun _ _ => trivial)); (case aO => exact (by (with_reducible repeat (first | apply Kd.R_alloc | apply Kd.R_drewN | apply Kd.R_drew)); exact HO_5.out)); (case aS => exact (below_size (hbx HB))); (case aL => have := LMc17.out; omega); intro v683 w18 ho hb hg hat; rw [← Ny682.out] at ho; replace HO_3 := Aside0.mk (Kd.R_over' (by (with_reducible repeat (first | apply Kd.R_alloc | apply Kd.R_drewN | apply Kd.R_drew)); exact HO_3.out) (Kd.R_typed (by (with_reducible repeat (first | apply Kd.R_alloc | apply Kd.R_drewN | apply Kd.R_drew)); exact HO_5.out)) (by decide) hg); have HO684 := Aside0.mk (ho); replace HB := Aside0.mk (hb); clear HO_5; clear ho hb hg hat)))
            go_roundg kj7
            case measure => have := HK1.out; have := HK2.out; have := HJ7.out; omega
            case rel => exact ⟨(y682), (x6_2), (wrap64 (x7_2 + 1)), re, re, H', ⟨by have := HK1.out; have := HK2.out; have := HJ7.out; omega⟩, ⟨by (with_reducible repeat (first | apply Kd.R_alloc | apply Kd.R_drewN | apply Kd.R_drew)); exact HO_3.out⟩, ⟨by (with_reducible repeat (first | apply Kd.R_alloc | apply Kd.R_drewN | apply Kd.R_drew)); exact HO684.out⟩, ⟨by repeat (first | (with_reducible first | exact HB.out | apply below_alloc | apply pw_below_drewN | apply below_drew1) | exact HB.out)⟩⟩
           rw [if_neg c17] at H
           exact absurd H (by simp)
          rw [if_neg c16] at H
          exact absurd H (by simp)
         rw [if_neg c15] at H
         exact absurd H (by simp)
      rw [if_neg c7] at H
      have c7b0 : decide (x7_2 < (l0.length : Int)) = false := decide_eq_false c7
      clear c7
      have HC19 := Aside0.mk H
      clear H
      go_upto_region 13 with (fail)
      repeat (go_quiet (fail); go_upto_region 13 with (fail))
      go_cut [59] (fun v59 wc => ∃ (kq : Nat) (x59_18 : Bool), v59 = .bool x59_18 ∧ Aside0 (spec_l7Needed.j3 kq l0 x3_1 x4_1 x59_18 = some r) ∧ Aside0 (kq ≤ k2) ∧ Aside0 (Kd.R (Kd.int .i64) 3 wc w.heap.size (fun _ => True) u3 x3_1) ∧ Aside0 (Below w.heap.size w wc))
      case first =>
       have H := HC19.out
       clear HC19
       by_cases c20 : x6_2 = true
       ·subst c20
        have H1 : (if 0 ≤ x4_1 then (if x4_1 < (l0.length : Int) then ((spec_l3Flip.f ((rd_T23 l0 x4_1).f0) ((rd_T23 l0 x4_1).f1) ((rd_T23 l0 x4_1).f2) ((rd_T23 l0 x4_1).f3)).bind fun bt686 => ((spec_l6With.f k2 x5_2 bt686.1 bt686.2.1 bt686.2.2.1 bt686.2.2.2).bind fun t690 => (spec_l7Needed.j3 k2 l0 x3_1 x4_1 (!t690)))) else (none)) else (none)) = some r := by rw [if_pos rfl] at H; exact H
        clear H
        have H := H1
        clear H1
        by_cases c21 : 0 ≤ x4_1
        ·rw [if_pos c21] at H
         have c21b0 : decide (0 ≤ x4_1) = true := decide_eq_true c21
         clear c21
         (first | rw [c21b0] | (simp only [i64_w, i32_w]; rw [c21b0]) | skip)
         by_cases c22 : x4_1 < (l0.length : Int)
         ·rw [if_pos c22] at H
          have c22b0 : decide (x4_1 < (l0.length : Int)) = true := decide_eq_true c22
          clear c22
          obtain ⟨⟨t686, t687, t688, t689⟩, A23, H⟩ := bi H
          dsimp only at H
          obtain ⟨t690, A24, H⟩ := bi H
          have H' := Aside0.mk H
          clear H
          have p685 : 0 ≤ (x4_1 : Int) := dk
          have q685 : x4_1 < (l0.length : Int) := dk
          obtain ⟨ad685, e685, hx685_0, hx685_1, hx685_2, hx685_3⟩ := at_T23 HR0.out x4_1 p685 q685
          cases e685
          replace hx685_0 := hc HB hx685_0
          replace hx685_1 := hc HB hx685_1
          replace hx685_2 := hc HB hx685_2
          replace hx685_3 := hc HB hx685_3
          replace p685 := eq_true p685
          replace q685 := eq_true q685
          go_wp2_with (first | (go_at_call 138; (with_reducible refine (spec_l3Flip.calls ((rd_T23 l0 x4_1).f0) ((rd_T23 l0 x4_1).f1) ((rd_T23 l0 x4_1).f2) ((rd_T23 l0 x4_1).f3) t686 t687 t688 t689 _ A23.out).mono ?_); rintro e w25 ⟨rfl, hb⟩; replace HO_3 := Aside0.mk (Kd.R_below (by (with_reducible repeat (first | apply Kd.R_alloc | apply Kd.R_drewN | apply Kd.R_drew)); exact HO_3.out) hb); replace HO_5 := Aside0.mk (Kd.R_below (by (with_reducible repeat (first | apply Kd.R_alloc | apply Kd.R_drewN | apply Kd.R_drew)); exact HO_5.out) hb); replace HB := bt HB hb; (try clear hb); (try clear hb2); (try clear hk); (try clear hi); obtain ⟨Ao26, co26, eo26⟩ := Kd.R_slice HO_5.out; subst eo26) | (go_at_call 136; (with_reducible refine (spec_l6With.calls k2 _ _ x5_2 t686 t687 t688 t689 t690 _ ?side1 ?side2 A24.out).mono ?_); (case side1 => repeat (first | exact (Kd.R_reads' HO_5.out).2.2 | (with_reducible refine Kd.C_alloc ?_ _) | (with_reducible refine Kd.C_drewN ?_ _) | (with_reducible refine Kd.C_drew ?_))); (case side2 => exact (Kd.R_reads' HO_5.out).2.1); rintro e w27 ⟨rfl, hb⟩; replace HO_3 := Aside0.mk (Kd.R_below (by (with_reducible repeat (first | apply Kd.R_alloc | apply Kd.R_drewN | apply Kd.R_drew)); exact HO_3.out) hb); replace HO_5 := Aside0.mk (Kd.R_below (by (with_reducible repeat (first | apply Kd.R_alloc | apply Kd.R_drewN | apply Kd.R_drew)); exact HO_5.out) hb); replace HB := bt HB hb; (try clear hb); (try clear hb2); (try clear hk); (try clear hi)))
          repeat (go_quiet (first | (go_at_call 138; (with_reducible refine (spec_l3Flip.calls ((rd_T23 l0 x4_1).f0) ((rd_T23 l0 x4_1).f1) ((rd_T23 l0 x4_1).f2) ((rd_T23 l0 x4_1).f3) t686 t687 t688 t689 _ A23.out).mono ?_); rintro e w25 ⟨rfl, hb⟩; replace HO_3 := Aside0.mk (Kd.R_below (by (with_reducible repeat (first | apply Kd.R_alloc | apply Kd.R_drewN | apply Kd.R_drew)); exact HO_3.out) hb); replace HO_5 := Aside0.mk (Kd.R_below (by (with_reducible repeat (first | apply Kd.R_alloc | apply Kd.R_drewN | apply Kd.R_drew)); exact HO_5.out) hb); replace HB := bt HB hb; (try clear hb); (try clear hb2); (try clear hk); (try clear hi); obtain ⟨Ao26, co26, eo26⟩ := Kd.R_slice HO_5.out; subst eo26) | (go_at_call 136; (with_reducible refine (spec_l6With.calls k2 _ _ x5_2 t686 t687 t688 t689 t690 _ ?side1 ?side2 A24.out).mono ?_); (case side1 => repeat (first | exact (Kd.R_reads' HO_5.out).2.2 | (with_reducible refine Kd.C_alloc ?_ _) | (with_reducible refine Kd.C_drewN ?_ _) | (with_reducible refine Kd.C_drew ?_))); (case side2 => exact (Kd.R_reads' HO_5.out).2.1); rintro e w27 ⟨rfl, hb⟩; replace HO_3 := Aside0.mk (Kd.R_below (by (with_reducible repeat (first | apply Kd.R_alloc | apply Kd.R_drewN | apply Kd.R_drew)); exact HO_3.out) hb); replace HO_5 := Aside0.mk (Kd.R_below (by (with_reducible repeat (first | apply Kd.R_alloc | apply Kd.R_drewN | apply Kd.R_drew)); exact HO_5.out) hb); replace HB := bt HB hb; (try clear hb); (try clear hb2); (try clear hk); (try clear hi))); try go_wp2_with (first | (go_at_call 138; (with_reducible refine (spec_l3Flip.calls ((rd_T23 l0 x4_1).f0) ((rd_T23 l0 x4_1).f1) ((rd_T23 l0 x4_1).f2) ((rd_T23 l0 x4_1).f3) t686 t687 t688 t689 _ A23.out).mono ?_); rintro e w25 ⟨rfl, hb⟩; replace HO_3 := Aside0.mk (Kd.R_below (by (with_reducible repeat (first | apply Kd.R_alloc | apply Kd.R_drewN | apply Kd.R_drew)); exact HO_3.out) hb); replace HO_5 := Aside0.mk (Kd.R_below (by (with_reducible repeat (first | apply Kd.R_alloc | apply Kd.R_drewN | apply Kd.R_drew)); exact HO_5.out) hb); replace HB := bt HB hb; (try clear hb); (try clear hb2); (try clear hk); (try clear hi); obtain ⟨Ao26, co26, eo26⟩ := Kd.R_slice HO_5.out; subst eo26) | (go_at_call 136; (with_reducible refine (spec_l6With.calls k2 _ _ x5_2 t686 t687 t688 t689 t690 _ ?side1 ?side2 A24.out).mono ?_); (case side1 => repeat (first | exact (Kd.R_reads' HO_5.out).2.2 | (with_reducible refine Kd.C_alloc ?_ _) | (with_reducible refine Kd.C_drewN ?_ _) | (with_reducible refine Kd.C_drew ?_))); (case side2 => exact (Kd.R_reads' HO_5.out).2.1); rintro e w27 ⟨rfl, hb⟩; replace HO_3 := Aside0.mk (Kd.R_below (by (with_reducible repeat (first | apply Kd.R_alloc | apply Kd.R_drewN | apply Kd.R_drew)); exact HO_3.out) hb); replace HO_5 := Aside0.mk (Kd.R_below (by (with_reducible repeat (first | apply Kd.R_alloc | apply Kd.R_drewN | apply Kd.R_drew)); exact HO_5.out) hb); replace HB := bt HB hb; (try clear hb); (try clear hb2); (try clear hk); (try clear hi))))
          go_meet
          case rel => exact ⟨_, (!t690), re, H', ⟨by have := HK1.out; have := HK2.out; first | omega | exact Nat.le_refl _⟩, ⟨by (with_reducible repeat (first | apply Kd.R_alloc | apply Kd.R_drewN | apply Kd.R_drew)); exact HO_3.out⟩, ⟨by repeat (first | (with_reducible first | exact HB.out | apply below_alloc | apply pw_below_drewN | apply below_drew1) | exact HB.out)⟩⟩
         rw [if_neg c22] at H
         exact absurd H (by simp)
        rw [if_neg c21] at H
        exact absurd H (by simp)
       replace c20 := Bool.eq_false_iff.mpr c20
       subst c20
       have H1 : (spec_l7Needed.j3 k2 l0 x3_1 x4_1 false) = some r := by rw [if_neg (show ¬ (false = true) by decide)] at H; exact H
       clear H
       have H := H1
       clear H1
       have H' := Aside0.mk H
       clear H
       go_wp2
       repeat (go_quiet (fail); try go_wp2)
       go_meet
       case rel => exact ⟨_, (false), re, H', ⟨by have := HK1.out; have := HK2.out; first | omega | exact Nat.le_refl _⟩, ⟨by (with_reducible repeat (first | apply Kd.R_alloc | apply Kd.R_drewN | apply Kd.R_drew)); exact HO_3.out⟩, ⟨by repeat (first | (with_reducible first | exact HB.out | apply below_alloc | apply pw_below_drewN | apply below_drew1) | exact HB.out)⟩⟩
      case rest =>
       clear HC19
       obtain ⟨kq, x59_18, rfl, HA, HJ18, HO_3, HB⟩ := hcut
       cases kq with
       | zero => exact absurd HA.out (by simp [spec_l7Needed.j3])
       | succ kj18 =>
        have H := HA.out
        clear HA
        simp only [spec_l7Needed.j3] at H
        by_cases c28 : x59_18 = true
        ·subst c28
         have H1 : (if x3_1.length < 17592186044416 then (spec_l7Needed.l0 kj18 l0 (x3_1 ++ [x4_1]) (wrap64 (x4_1 + 1))) else (none)) = some r := by rw [if_pos rfl] at H; exact H
         clear H
         have H := H1
         clear H1
         by_cases c29 : x3_1.length < 17592186044416
         ·rw [if_pos c29] at H
          have LMc29 := Aside0.mk c29
          clear c29
          obtain ⟨y691, hy691⟩ : ∃ y_ : List Int, y_ = (x3_1 ++ [x4_1]) := ⟨_, rfl⟩
          replace H : (spec_l7Needed.l0 kj18 l0 y691 (wrap64 (x4_1 + 1))) = some r := by first | (rw [hy691]; with_reducible exact H) | (have H2_ := (Option.bind_some _ _).symm.trans H; rw [hy691]; with_reducible exact H2_) | (have H2_ := (Option.bind_some _ _).symm.trans H; with_reducible exact H2_) | with_reducible exact H | (rw [hy691]; exact H) | exact H
          have Ny691 := Aside0.mk hy691
          clear hy691
          have H' := Aside0.mk H
          clear H
          go_wp2_with (first | ((with_reducible refine gate_builtin (b := .append) (xs := #[.tmp 60, .tmp 62]) rfl ?_); at_builtin; refine Kd.R_append (Kd.int .i64) (w0 := w) w.heap.size rfl (.tmp 60) (.tmp 62) 68 3 (.int .i64 0) 8 rfl Try.underlying68 info3 rfl (by decide) (by omega) u3 x3_1 x4_1 [.int .i64 x4_1] (fun _ => True) (fun _ => False) rfl rfl ?aP (fun _ hk => hk.elim) ?aF ?aO ?aB ?aS ?aL ?_; (case aP => exact rfl); (case aB => exact (hbx HB)); (case aF => exact (fun _ _ => trivial)); (case aO => exact (by (with_reducible repeat (first | apply Kd.R_alloc | apply Kd.R_drewN | apply Kd.R_drew)); exact HO_3.out)); (case aS => exact (below_size (hbx HB))); (case aL => have := LMc29.out; omega); intro v692 w30 ho hb hg hat; rw [← Ny691.out] at ho; have HO693 := Aside0.mk (ho); replace HB := Aside0.mk (hb); clear HO_3; clear ho hb hg hat))
          repeat (go_quiet (first | ((with_reducible refine gate_builtin (b := .append) (xs := #[.tmp 60, .tmp 62]) rfl ?_); at_builtin; refine Kd.R_append (Kd.int .i64) (w0 := w) w.heap.size rfl (.tmp 60) (.tmp 62) 68 3 (.int .i64 0) 8 rfl Try.underlying68 info3 rfl (by decide) (by omega) u3 x3_1 x4_1 [.int .i64 x4_1] (fun _ => True) (fun _ => False) rfl rfl ?aP (fun _ hk => hk.elim) ?aF ?aO ?aB ?aS ?aL ?_; (case aP => exact rfl); (case aB => exact (hbx HB)); (case aF => exact (fun _ _ => trivial)); (case aO => exact (by (with_reducible repeat (first | apply Kd.R_alloc | apply Kd.R_drewN | apply Kd.R_drew)); exact HO_3.out)); (case aS => exact (below_size (hbx HB))); (case aL => have := LMc29.out; omega); intro v692 w30 ho hb hg hat; rw [← Ny691.out] at ho; have HO693 := Aside0.mk (ho); replace HB := Aside0.mk (hb); clear HO_3; clear ho hb hg hat)); try go_wp2_with (first | ((with_reducible refine gate_builtin (b := .append) (xs := #[.tmp 60, .tmp 62]) rfl ?_); at_builtin; refine Kd.R_append (Kd.int .i64) (w0 := w) w.heap.size rfl (.tmp 60) (.tmp 62) 68 3 (.int .i64 0) 8 rfl Try.underlying68 info3 rfl (by decide) (by omega) u3 x3_1 x4_1 [.int .i64 x4_1] (fun _ => True) (fun _ => False) rfl rfl ?aP (fun _ hk => hk.elim) ?aF ?aO ?aB ?aS ?aL ?_; (case aP => exact rfl); (case aB => exact (hbx HB)); (case aF => exact (fun _ _ => trivial)); (case aO => exact (by (with_reducible repeat (first | apply Kd.R_alloc | apply Kd.R_drewN | apply Kd.R_drew)); exact HO_3.out)); (case aS => exact (below_size (hbx HB))); (case aL => have := LMc29.out; omega); intro v692 w30 ho hb hg hat; rw [← Ny691.out] at ho; have HO693 := Aside0.mk (ho); replace HB := Aside0.mk (hb); clear HO_3; clear ho hb hg hat)))
          go_roundg kj18
          case measure => have := HK1.out; have := HK2.out; have := HJ18.out; omega
          case rel => exact ⟨(y691), (wrap64 (x4_1 + 1)), re, H', ⟨by have := HK1.out; have := HK2.out; have := HJ18.out; omega⟩, ⟨by (with_reducible repeat (first | apply Kd.R_alloc | apply Kd.R_drewN | apply Kd.R_drew)); exact HO693.out⟩, ⟨by repeat (first | (with_reducible first | exact HB.out | apply below_alloc | apply pw_below_drewN | apply below_drew1) | exact HB.out)⟩⟩
         rw [if_neg c29] at H
         exact absurd H (by simp)
        replace c28 := Bool.eq_false_iff.mpr c28
        subst c28
        have H1 : (spec_l7Needed.l0 kj18 l0 x3_1 (wrap64 (x4_1 + 1))) = some r := by rw [if_neg (show ¬ (false = true) by decide)] at H; exact H
        clear H
        have H := H1
        clear H1
        have H' := Aside0.mk H
        clear H
        go_wp2
        repeat (go_quiet (fail); try go_wp2)
        go_roundg kj18
        case measure => have := HK1.out; have := HK2.out; have := HJ18.out; omega
        case rel => exact ⟨(x3_1), (wrap64 (x4_1 + 1)), re, H', ⟨by have := HK1.out; have := HK2.out; have := HJ18.out; omega⟩, ⟨by (with_reducible repeat (first | apply Kd.R_alloc | apply Kd.R_drewN | apply Kd.R_drew)); exact HO_3.out⟩, ⟨by repeat (first | (with_reducible first | exact HB.out | apply below_alloc | apply pw_below_drewN | apply below_drew1) | exact HB.out)⟩⟩
   rw [if_neg c4] at H
   have c4b0 : decide (x4_1 < (l0.length : Int)) = false := decide_eq_false c4
   clear c4
   obtain rfl := Option.some.inj H
   go_wp2
   repeat (go_quiet (fail); try go_wp2)
   go_ret
   exact ⟨_, by first | rfl | (simp [errW_none, errW_some] <;> rfl) | (simp [*, errW_none, errW_some] <;> rfl), by (with_reducible repeat (first | apply Kd.R_alloc | apply Kd.R_drewN | apply Kd.R_drew)); exact HO_3.out, by repeat (first | (with_reducible first | exact HB.out | apply below_alloc | apply pw_below_drewN | apply below_drew1) | exact HB.out)⟩

/-! ### spec_Needed: function 58 -/
def spec_Needed.f (k : Nat) (l0 : List (S23)) : Option (List Int) := (spec_Open.f k l0).bind fun t694 => (if t694 = true then ((spec_l7Needed.f k l0).bind fun t698 => (some t698)) else (some (([] : List Int))))
theorem spec_Needed.mono : ∀ a0 k, LeO (spec_Needed.f k a0) (spec_Needed.f (k + 1) a0) := by
 intro a0 k
 unfold spec_Needed.f
 repeat' first
   | (with_reducible exact spec_Open.mono _ _)
   | (with_reducible exact spec_l7Needed.mono _ _)
   | (with_reducible exact LeO.refl _)
   | (with_reducible exact LeO.none _)
   | (with_reducible refine LeO.ite ?_ ?_)
   | (with_reducible refine LeO.bind ?_ (fun _ => ?_))
   | exact spec_Open.mono _ _
   | exact spec_l7Needed.mono _ _
   | exact LeO.none _
   | refine LeO.ite ?_ ?_
   | refine LeO.bind ?_ (fun _ => ?_)
set_option maxHeartbeats 8000000 in
set_option maxRecDepth 100000 in
theorem spec_Needed.calls (k : Nat) (A0 : Option Addr) (c0 : Nat) (l0 : List (S23)) (r : List Int) (w : World) (hr0 : Kd.C k23 w A0 l0.length l0) (hc0 : l0.length ≤ c0) (h : spec_Needed.f k l0 = some r) :
  Calls Try.prog 58 #[.slice A0 l0.length c0] w fun e w' => ∃ v0_ : Value, e = .returned (v0_) ∧ Kd.R (Kd.int .i64) 3 w' w.heap.size (fun _ => True) v0_ r ∧ Below w.heap.size w w' := by
 have HR0 := Aside0.mk hr0
 have HC0 := Aside0.mk hc0
 clear hr0 hc0
 have HB := Aside0.mk (Below.refl w.heap.size w)
 have H : ((spec_Open.f k l0).bind fun t694 => (if t694 = true then ((spec_l7Needed.f k l0).bind fun t698 => (some t698)) else (some (([] : List Int))))) = some r := h
 clear h
 obtain ⟨t694, A2, H⟩ := bi H
 by_cases c3 : t694 = true
 ·subst c3
  have H1 : ((spec_l7Needed.f k l0).bind fun t698 => (some t698)) = some r := by rw [if_pos rfl] at H; exact H
  clear H
  have H := H1
  clear H1
  obtain ⟨t698, A4, H⟩ := bi H
  obtain rfl := Option.some.inj H
  go_enter Try.func58, Try.ntmps58
  go_wp2_with (first | ((with_reducible refine gate_callee (f := 39) rfl ?_); refine gL 4 Try.func39 #[.slice A0 l0.length c0] ?_; (with_reducible refine (spec_Open.calls k _ _ l0 true _ ?side1 ?side2 A2.out).mono ?_); (case side1 => repeat (first | exact HR0.out | (with_reducible refine Kd.C_alloc ?_ _) | (with_reducible refine Kd.C_drewN ?_ _) | (with_reducible refine Kd.C_drew ?_))); (case side2 => exact HC0.out); rintro e w5 ⟨rfl, hb⟩; refine ⟨_, rfl, ?_⟩; replace HB := bt HB hb; (try clear hb); (try clear hb2); (try clear hk); (try clear hi)) | ((with_reducible refine gate_callee (f := 112) rfl ?_); refine gL 8 Try.func112 #[.slice A0 l0.length c0] ?_; (with_reducible refine (spec_l7Needed.calls k _ _ l0 t698 _ ?side1 ?side2 A4.out).mono ?_); (case side1 => repeat (first | exact (Kd.C_below HR0.out HB.out) | (with_reducible refine Kd.C_alloc ?_ _) | (with_reducible refine Kd.C_drewN ?_ _) | (with_reducible refine Kd.C_drew ?_))); (case side2 => exact HC0.out); rintro e w6 ⟨v699, rfl, ho0, hb⟩; refine ⟨_, rfl, ?_⟩; have HO700 := Aside0.mk (Kd.R_lower ho0 (below_size (hbx HB))); replace HB := bt HB hb; (try clear hb); (try clear hb2); (try clear hk); (try clear hi); (try clear ho0)))
  go_ret
  exact ⟨_, by first | rfl | (simp [errW_none, errW_some] <;> rfl) | (simp [*, errW_none, errW_some] <;> rfl), by (with_reducible repeat (first | apply Kd.R_alloc | apply Kd.R_drewN | apply Kd.R_drew)); exact HO700.out, by repeat (first | (with_reducible first | exact HB.out | apply below_alloc | apply pw_below_drewN | apply below_drew1) | exact HB.out)⟩
 replace c3 := Bool.eq_false_iff.mpr c3
 subst c3
 have H1 : (some (([] : List Int))) = some r := by rw [if_neg (show ¬ (false = true) by decide)] at H; exact H
 clear H
 have H := H1
 clear H1
 obtain ⟨y695, hy695⟩ : ∃ y_ : List Int, y_ = (([] : List Int)) := ⟨_, rfl⟩
 replace H : (some y695) = some r := by first | (rw [hy695]; with_reducible exact H) | (have H2_ := (Option.bind_some _ _).symm.trans H; rw [hy695]; with_reducible exact H2_) | (have H2_ := (Option.bind_some _ _).symm.trans H; with_reducible exact H2_) | with_reducible exact H | (rw [hy695]; exact H) | exact H
 have Ny695 := Aside0.mk hy695
 clear hy695
 obtain rfl := Option.some.inj H
 go_enter Try.func58, Try.ntmps58
 go_wp2_with (first | ((with_reducible refine gate_callee (f := 39) rfl ?_); refine gL 4 Try.func39 #[.slice A0 l0.length c0] ?_; (with_reducible refine (spec_Open.calls k _ _ l0 false _ ?side1 ?side2 A2.out).mono ?_); (case side1 => repeat (first | exact HR0.out | (with_reducible refine Kd.C_alloc ?_ _) | (with_reducible refine Kd.C_drewN ?_ _) | (with_reducible refine Kd.C_drew ?_))); (case side2 => exact HC0.out); rintro e w7 ⟨rfl, hb⟩; refine ⟨_, rfl, ?_⟩; replace HB := bt HB hb; (try clear hb); (try clear hb2); (try clear hk); (try clear hi)) | ((with_reducible refine gate_dst (N := 6) rfl ?_); refine Kd.R_lit (Kd.int .i64) _ 3 ?hg (N := 6) ?hd (xs := ([] : List Int)) (inner := []) (ok := fun _ => True) (okp := fun _ => True) ?hr ?hp (fun _ hk => hk) trivial (Below.refl _ _) (Nat.le_refl _) (by simp) ?_; (case hd => rfl); (case hg => rfl); (case hr => first | (go_simp; done) | (go_simp; rfl)); (case hp => exact (Reps.none _ _)); intro v696 w8 ho9 hb hg_ hnew_; clear hg_ hnew_; (first | rw [← Ny695.out] at ho9 | (simp only [Int.reduceToNat] at ho9; rw [← Ny695.out] at ho9)); have HO697 := Aside0.mk (Kd.R_lower ho9 (below_size (hbx HB))); replace HB := bt HB hb; clear hb ho9))
 go_ret
 exact ⟨_, by first | rfl | (simp [errW_none, errW_some] <;> rfl) | (simp [*, errW_none, errW_some] <;> rfl), by (with_reducible repeat (first | apply Kd.R_alloc | apply Kd.R_drewN | apply Kd.R_drew)); exact HO697.out, by repeat (first | (with_reducible first | exact HB.out | apply below_alloc | apply pw_below_drewN | apply below_drew1) | exact HB.out)⟩

/-! ### impl_Plane: function 151 -/
def impl_Plane.l0 : Nat → List (S23) → Int → Int → Int → Int → Int → Int → Option (Int)
 | 0, _, _, _, _, _, _, _ => none
 | k + 1, x0, x7, x8, x702000, x702001, x702002, x702003 => if x8 < x7 then (if 0 ≤ x8 then (if x8 < (x0.length : Int) then (if (x702000 == ((rd_T23 x0 x8).f0) && (x702001 == ((rd_T23 x0 x8).f1) && (x702002 == ((rd_T23 x0 x8).f2) && (x702003 == ((rd_T23 x0 x8).f3))))) = true then (some x8) else (impl_Plane.l0 k x0 x7 (wrap64 (x8 + 1)) x702000 x702001 x702002 x702003)) else (none)) else (none)) else (some (-1))
def impl_Plane.f (k : Nat) (l0 : List (S23)) (a1_0 : Int) (a1_1 : Int) (a1_2 : Int) (a1_3 : Int) : Option (Int) := impl_Plane.l0 k l0 (l0.length : Int) 0 a1_0 a1_1 a1_2 a1_3
theorem impl_Plane.mono_l : ∀ k, (∀ y0 y1 y2 y3 y4 y5 y6, LeO (impl_Plane.l0 k y0 y1 y2 y3 y4 y5 y6) (impl_Plane.l0 (k + 1) y0 y1 y2 y3 y4 y5 y6))
 | 0 => fun _ _ _ _ _ _ _ r h => by simp [impl_Plane.l0] at h
 | k + 1 => by
  have ih0 := impl_Plane.mono_l k
  intro y0 y1 y2 y3 y4 y5 y6
  unfold impl_Plane.l0
  repeat' first
  | (with_reducible exact ih0 _ _ _ _ _ _ _)
  | (with_reducible exact LeO.refl _)
  | (with_reducible exact LeO.none _)
  | (with_reducible refine LeO.ite ?_ ?_)
  | (with_reducible refine LeO.bind ?_ (fun _ => ?_))
  | exact ih0 _ _ _ _ _ _ _
  | exact LeO.none _
  | refine LeO.ite ?_ ?_
  | refine LeO.bind ?_ (fun _ => ?_)
theorem impl_Plane.mono : ∀ a0 a1 a2 a3 a4 k, LeO (impl_Plane.f k a0 a1 a2 a3 a4) (impl_Plane.f (k + 1) a0 a1 a2 a3 a4) := by
 intro a0 a1 a2 a3 a4 k
 have ih0 := impl_Plane.mono_l k
 unfold impl_Plane.f
 repeat' first
   | (with_reducible exact ih0 _ _ _ _ _ _ _)
   | (with_reducible exact LeO.refl _)
   | (with_reducible exact LeO.none _)
   | (with_reducible refine LeO.ite ?_ ?_)
   | (with_reducible refine LeO.bind ?_ (fun _ => ?_))
   | exact ih0 _ _ _ _ _ _ _
   | exact LeO.none _
   | refine LeO.ite ?_ ?_
   | refine LeO.bind ?_ (fun _ => ?_)
set_option maxHeartbeats 8000000 in
set_option maxRecDepth 100000 in
theorem impl_Plane.calls (k : Nat) (A0 : Option Addr) (c0 : Nat) (l0 : List (S23)) (a1_0 : Int) (a1_1 : Int) (a1_2 : Int) (a1_3 : Int) (r : Int) (w : World) (hr0 : Kd.C k23 w A0 l0.length l0) (hc0 : l0.length ≤ c0) (h : impl_Plane.f k l0 a1_0 a1_1 a1_2 a1_3 = some r) :
  Calls Try.prog 151 #[.slice A0 l0.length c0, .agg #[.int .i64 a1_0, .int .i64 a1_1, .int .i64 a1_2, .int .i64 a1_3]] w fun e w' => e = .returned (.int .i64 r) ∧ Below w.heap.size w w' := by
 have hu23 := Try.underlying23
 have HR0 := Aside0.mk hr0
 have HC0 := Aside0.mk hc0
 clear hr0 hc0
 have HB := Aside0.mk (Below.refl w.heap.size w)
 have H : (impl_Plane.l0 k l0 (l0.length : Int) 0 a1_0 a1_1 a1_2 a1_3) = some r := h
 clear h
 have H' := Aside0.mk H
 clear H
 go_enter Try.func151, Try.ntmps151
 go_wp2_with (first | ((with_reducible refine gate_dst (N := 3) rfl ?_); refine box_event ?hg (N := 3) ?hd (cs := #[.int .i64 a1_0, .int .i64 a1_1, .int .i64 a1_2, .int .i64 a1_3]) (t := 23) ?hr ?_; (case hd => rfl); (case hg => rfl); (case hr => first | (go_simp; done) | (go_simp; rfl)); intro g1 hg w3 hbox hb; have bK1 := Aside0.mk (hbox); have bW1 := gx hg HB; have bE1 := gx hg HB; replace HB := bt HB hb; clear hb hbox hg))
 repeat (go_quiet (first | ((with_reducible refine gate_dst (N := 3) rfl ?_); refine box_event ?hg (N := 3) ?hd (cs := #[.int .i64 a1_0, .int .i64 a1_1, .int .i64 a1_2, .int .i64 a1_3]) (t := 23) ?hr ?_; (case hd => rfl); (case hg => rfl); (case hr => first | (go_simp; done) | (go_simp; rfl)); intro g1 hg w3 hbox hb; have bK1 := Aside0.mk (hbox); have bW1 := gx hg HB; have bE1 := gx hg HB; replace HB := bt HB hb; clear hb hbox hg)); try go_wp2_with (first | ((with_reducible refine gate_dst (N := 3) rfl ?_); refine box_event ?hg (N := 3) ?hd (cs := #[.int .i64 a1_0, .int .i64 a1_1, .int .i64 a1_2, .int .i64 a1_3]) (t := 23) ?hr ?_; (case hd => rfl); (case hg => rfl); (case hr => first | (go_simp; done) | (go_simp; rfl)); intro g1 hg w3 hbox hb; have bK1 := Aside0.mk (hbox); have bW1 := gx hg HB; have bE1 := gx hg HB; replace HB := bt HB hb; clear hb hbox hg)))
 go_loopg [8] k (fun kq v8 w' => ∃ (x8_1 : Int), v8 = .int .i64 x8_1 ∧ Aside0 (impl_Plane.l0 kq l0 (l0.length : Int) x8_1 a1_0 a1_1 a1_2 a1_3 = some r) ∧ Aside0 (kq ≤ k) ∧ Aside0 (w'.heap[g1]? = some (.cells #[.int .i64 a1_0, .int .i64 a1_1, .int .i64 a1_2, .int .i64 a1_3] 23 (0, 0))) ∧ Aside0 (Below w.heap.size w w'))
 case atStart => exact ⟨(0), re, H', ⟨Nat.le_refl _⟩, ⟨by (with_reducible repeat (first | refine blk_drewN ?_ _ | refine blk_drew ?_ | refine blk_alloc ?_ _)); exact bK1.out⟩, ⟨by repeat (first | (with_reducible first | exact HB.out | apply below_alloc | apply pw_below_drewN | apply below_drew1 | refine below_set ?_ bE1.out) | exact HB.out)⟩⟩
 case round =>
  clear H'
  obtain ⟨x8_1, rfl, HA, HK1, bK1, HB⟩ := hrel
  cases gk with
  | zero => exact absurd HA.out (by simp [impl_Plane.l0])
  | succ k1 =>
   have H := HA.out
   clear HA
   simp only [impl_Plane.l0] at H
   by_cases c4 : x8_1 < (l0.length : Int)
   ·rw [if_pos c4] at H
    have c4b0 : decide (x8_1 < (l0.length : Int)) = true := decide_eq_true c4
    clear c4
    by_cases c5 : 0 ≤ x8_1
    ·rw [if_pos c5] at H
     have c5b0 : decide (0 ≤ x8_1) = true := decide_eq_true c5
     clear c5
     by_cases c6 : x8_1 < (l0.length : Int)
     ·rw [if_pos c6] at H
      have c6b0 : decide (x8_1 < (l0.length : Int)) = true := decide_eq_true c6
      clear c6
      by_cases c7 : (a1_0 == ((rd_T23 l0 x8_1).f0) && (a1_1 == ((rd_T23 l0 x8_1).f1) && (a1_2 == ((rd_T23 l0 x8_1).f2) && (a1_3 == ((rd_T23 l0 x8_1).f3))))) = true
      ·rw [if_pos c7] at H
       have c7b0 : (a1_0 == ((rd_T23 l0 x8_1).f0) && (a1_1 == ((rd_T23 l0 x8_1).f1) && (a1_2 == ((rd_T23 l0 x8_1).f2) && (a1_3 == ((rd_T23 l0 x8_1).f3))))) = true := c7
       (try (have c7b1 : decide (a1_0 = ((rd_T23 l0 x8_1).f0) && (a1_1 == ((rd_T23 l0 x8_1).f1) && (a1_2 == ((rd_T23 l0 x8_1).f2) && (a1_3 == ((rd_T23 l0 x8_1).f3))))) = true := by simpa using c7))
       (try (have c7b2 : (a1_0 == ((rd_T23 l0 x8_1).f0) && (a1_1 == ((rd_T23 l0 x8_1).f1) && (a1_2 == ((rd_T23 l0 x8_1).f2) && (a1_3 == ((rd_T23 l0 x8_1).f3))))) = true := by simpa using c7))
       clear c7
       obtain rfl := Option.some.inj H
       obtain ⟨hcz8_0, hcz8_1, hcz8_2, hcz8_3, hfz8_0, hfz8_1, hfz8_2, hfz8_3⟩ := cz4 bK1
       have p702 : 0 ≤ (x8_1 : Int) := dk
       have q702 : x8_1 < (l0.length : Int) := dk
       obtain ⟨ad702, e702, hx702_0, hx702_1, hx702_2, hx702_3⟩ := at_T23 HR0.out x8_1 p702 q702
       cases e702
       replace hx702_0 := hc HB hx702_0
       replace hx702_1 := hc HB hx702_1
       replace hx702_2 := hc HB hx702_2
       replace hx702_3 := hc HB hx702_3
       replace p702 := eq_true p702
       replace q702 := eq_true q702
       go_wp2
       repeat (go_quiet (fail); try go_wp2)
       go_ret
       exact fin HB
      rw [if_neg c7] at H
      have c7b0 : (a1_0 == ((rd_T23 l0 x8_1).f0) && (a1_1 == ((rd_T23 l0 x8_1).f1) && (a1_2 == ((rd_T23 l0 x8_1).f2) && (a1_3 == ((rd_T23 l0 x8_1).f3))))) = false := by simpa using c7
      (try (have c7b1 : decide (a1_0 = ((rd_T23 l0 x8_1).f0) && (a1_1 == ((rd_T23 l0 x8_1).f1) && (a1_2 == ((rd_T23 l0 x8_1).f2) && (a1_3 == ((rd_T23 l0 x8_1).f3))))) = false := by simpa using c7))
      (try (have c7b2 : (a1_0 == ((rd_T23 l0 x8_1).f0) && (a1_1 == ((rd_T23 l0 x8_1).f1) && (a1_2 == ((rd_T23 l0 x8_1).f2) && (a1_3 == ((rd_T23 l0 x8_1).f3))))) = false := by simpa using c7))
      (try (have c7b3 : ¬ (a1_0 = ((rd_T23 l0 x8_1).f0) && (a1_1 == ((rd_T23 l0 x8_1).f1) && (a1_2 == ((rd_T23 l0 x8_1).f2) && (a1_3 == ((rd_T23 l0 x8_1).f3))))) := by simpa using c7))
      clear c7
      have H' := Aside0.mk H
      clear H
      obtain ⟨hcz9_0, hcz9_1, hcz9_2, hcz9_3, hfz9_0, hfz9_1, hfz9_2, hfz9_3⟩ := cz4 bK1
      have p702 : 0 ≤ (x8_1 : Int) := dk
      have q702 : x8_1 < (l0.length : Int) := dk
      obtain ⟨ad702, e702, hx702_0, hx702_1, hx702_2, hx702_3⟩ := at_T23 HR0.out x8_1 p702 q702
      cases e702
      replace hx702_0 := hc HB hx702_0
      replace hx702_1 := hc HB hx702_1
      replace hx702_2 := hc HB hx702_2
      replace hx702_3 := hc HB hx702_3
      replace p702 := eq_true p702
      replace q702 := eq_true q702
      go_wp2
      repeat (go_quiet (fail); try go_wp2)
      go_roundg k1
      case measure => have := HK1.out; omega
      case rel => exact ⟨(wrap64 (x8_1 + 1)), re, H', ⟨by have := HK1.out; omega⟩, ⟨by (with_reducible repeat (first | refine blk_drewN ?_ _ | refine blk_drew ?_ | refine blk_alloc ?_ _)); exact bK1.out⟩, ⟨by repeat (first | (with_reducible first | exact HB.out | apply below_alloc | apply pw_below_drewN | apply below_drew1 | refine below_set ?_ bE1.out) | exact HB.out)⟩⟩
     rw [if_neg c6] at H
     exact absurd H (by simp)
    rw [if_neg c5] at H
    exact absurd H (by simp)
   rw [if_neg c4] at H
   have c4b0 : decide (x8_1 < (l0.length : Int)) = false := decide_eq_false c4
   clear c4
   obtain rfl := Option.some.inj H
   go_wp2
   repeat (go_quiet (fail); try go_wp2)
   go_ret
   exact fin HB

end Go.Proofs.Ytndedincanmaeaa.Print
