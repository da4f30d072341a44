-- Printed by a program of the session (mkprinter.py, over the kit's print); Lean checks it.
import Derived.Test.YtndedincanmaeaaCp
import Derived.Test.YtndedincanmaeaaPrint0
import Derived.Test.YtndedincanmaeaaPrint5
import Derived.Test.YtndedincanmaeaaPrint7
import Derived.Test.YtndedincanmaeaaPrint8
namespace Go.Proofs.Ytndedincanmaeaa.Print
open Go.RowKit Go.Proofs.YtndedincanmaeaaW.PrintWords Go.Proofs.YtndedincanmaeaaW.PrintLast Go.Proofs.Ytndedincanmaeaa.Cp
set_option linter.unusedVariables false
set_option linter.unusedSimpArgs false

/-! ### spec_l6With: function 136 -/
mutual
def spec_l6With.l0 : Nat → List (S23) → Int → Int → Int → Int → Int → Int → Option (Bool)
 | 0, _, _, _, _, _, _, _ => none
 | k + 1, x0, x5, x6, x204000, x204001, x204002, x204003 => if x6 < x5 then (if 0 ≤ x6 then (if x6 < (x0.length : Int) then ((spec_l6Clash2.f ((rd_T23 x0 x6).f0) ((rd_T23 x0 x6).f1) ((rd_T23 x0 x6).f2) ((rd_T23 x0 x6).f3) x204000 x204001 x204002 x204003).bind fun t205 => (if t205 = true then (some true) else (spec_l6With.l1 k x0 x5 x6 (wrap64 (x6 + 1)) x204000 x204001 x204002 x204003))) else (none)) else (none)) else (some false)
def spec_l6With.l1 : Nat → List (S23) → Int → Int → Int → Int → Int → Int → Int → Option (Bool)
 | 0, _, _, _, _, _, _, _, _ => none
 | k + 1, x0, x5, x6, x7, x204000, x204001, x204002, x204003 => if x7 < x5 then (if 0 ≤ x6 then (if x6 < (x0.length : Int) then (if 0 ≤ x7 then (if x7 < (x0.length : Int) then ((spec_l6Clash3.f k ((rd_T23 x0 x6).f0) ((rd_T23 x0 x6).f1) ((rd_T23 x0 x6).f2) ((rd_T23 x0 x6).f3) ((rd_T23 x0 x7).f0) ((rd_T23 x0 x7).f1) ((rd_T23 x0 x7).f2) ((rd_T23 x0 x7).f3) x204000 x204001 x204002 x204003).bind fun t208 => (if t208 = true then (some true) else (spec_l6With.l2 k x0 x5 x6 x7 (wrap64 (x7 + 1)) x204000 x204001 x204002 x204003))) else (none)) else (none)) else (none)) else (none)) else (spec_l6With.l0 k x0 x5 (wrap64 (x6 + 1)) x204000 x204001 x204002 x204003)
def spec_l6With.l2 : Nat → List (S23) → Int → Int → Int → Int → Int → Int → Int → Int → Option (Bool)
 | 0, _, _, _, _, _, _, _, _, _ => none
 | k + 1, x0, x5, x6, x7, x8, x204000, x204001, x204002, x204003 => if x8 < x5 then (if 0 ≤ x6 then (if x6 < (x0.length : Int) then (if 0 ≤ x7 then (if x7 < (x0.length : Int) then (if 0 ≤ x8 then (if x8 < (x0.length : Int) then ((spec_l6Clash4.f k ((rd_T23 x0 x6).f0) ((rd_T23 x0 x6).f1) ((rd_T23 x0 x6).f2) ((rd_T23 x0 x6).f3) ((rd_T23 x0 x7).f0) ((rd_T23 x0 x7).f1) ((rd_T23 x0 x7).f2) ((rd_T23 x0 x7).f3) ((rd_T23 x0 x8).f0) ((rd_T23 x0 x8).f1) ((rd_T23 x0 x8).f2) ((rd_T23 x0 x8).f3) x204000 x204001 x204002 x204003).bind fun t212 => (if t212 = true then (some true) else (spec_l6With.l2 k x0 x5 x6 x7 (wrap64 (x8 + 1)) x204000 x204001 x204002 x204003))) else (none)) else (none)) else (none)) else (none)) else (none)) else (none)) else (spec_l6With.l1 k x0 x5 x6 (wrap64 (x7 + 1)) x204000 x204001 x204002 x204003)
end
def spec_l6With.f (k : Nat) (l0 : List (S23)) (a1_0 : Int) (a1_1 : Int) (a1_2 : Int) (a1_3 : Int) : Option (Bool) := spec_l6With.l0 k l0 (l0.length : Int) 0 a1_0 a1_1 a1_2 a1_3
theorem spec_l6With.mono_l : ∀ k, (∀ y0 y1 y2 y3 y4 y5 y6, LeO (spec_l6With.l0 k y0 y1 y2 y3 y4 y5 y6) (spec_l6With.l0 (k + 1) y0 y1 y2 y3 y4 y5 y6)) ∧ (∀ y0 y1 y2 y3 y4 y5 y6 y7, LeO (spec_l6With.l1 k y0 y1 y2 y3 y4 y5 y6 y7) (spec_l6With.l1 (k + 1) y0 y1 y2 y3 y4 y5 y6 y7)) ∧ (∀ y0 y1 y2 y3 y4 y5 y6 y7 y8, LeO (spec_l6With.l2 k y0 y1 y2 y3 y4 y5 y6 y7 y8) (spec_l6With.l2 (k + 1) y0 y1 y2 y3 y4 y5 y6 y7 y8))
 | 0 => ⟨fun _ _ _ _ _ _ _ r h => by simp [spec_l6With.l0] at h, fun _ _ _ _ _ _ _ _ r h => by simp [spec_l6With.l1] at h, fun _ _ _ _ _ _ _ _ _ r h => by simp [spec_l6With.l2] at h⟩
 | k + 1 => by
  obtain ⟨ih0, ih1, ih2⟩ := spec_l6With.mono_l k
  refine ⟨?_, ?_, ?_⟩
  ·intro y0 y1 y2 y3 y4 y5 y6
   unfold spec_l6With.l0
   repeat' first
   | (with_reducible exact ih0 _ _ _ _ _ _ _)
   | (with_reducible exact ih1 _ _ _ _ _ _ _ _)
   | (with_reducible exact ih2 _ _ _ _ _ _ _ _ _)
   | (with_reducible exact spec_l6Clash3.mono _ _ _ _ _ _ _ _ _ _ _ _ _)
   | (with_reducible exact spec_l6Clash4.mono _ _ _ _ _ _ _ _ _ _ _ _ _ _ _ _ _)
   | (with_reducible exact LeO.refl _)
   | (with_reducible exact LeO.none _)
   | (with_reducible refine LeO.ite ?_ ?_)
   | (with_reducible refine LeO.bind ?_ (fun _ => ?_))
   | exact ih0 _ _ _ _ _ _ _
   | exact ih1 _ _ _ _ _ _ _ _
   | exact ih2 _ _ _ _ _ _ _ _ _
   | exact spec_l6Clash3.mono _ _ _ _ _ _ _ _ _ _ _ _ _
   | exact spec_l6Clash4.mono _ _ _ _ _ _ _ _ _ _ _ _ _ _ _ _ _
   | exact LeO.none _
   | refine LeO.ite ?_ ?_
   | refine LeO.bind ?_ (fun _ => ?_)
  ·intro y0 y1 y2 y3 y4 y5 y6 y7
   unfold spec_l6With.l1
   repeat' first
   | (with_reducible exact ih0 _ _ _ _ _ _ _)
   | (with_reducible exact ih1 _ _ _ _ _ _ _ _)
   | (with_reducible exact ih2 _ _ _ _ _ _ _ _ _)
   | (with_reducible exact spec_l6Clash3.mono _ _ _ _ _ _ _ _ _ _ _ _ _)
   | (with_reducible exact spec_l6Clash4.mono _ _ _ _ _ _ _ _ _ _ _ _ _ _ _ _ _)
   | (with_reducible exact LeO.refl _)
   | (with_reducible exact LeO.none _)
   | (with_reducible refine LeO.ite ?_ ?_)
   | (with_reducible refine LeO.bind ?_ (fun _ => ?_))
   | exact ih0 _ _ _ _ _ _ _
   | exact ih1 _ _ _ _ _ _ _ _
   | exact ih2 _ _ _ _ _ _ _ _ _
   | exact spec_l6Clash3.mono _ _ _ _ _ _ _ _ _ _ _ _ _
   | exact spec_l6Clash4.mono _ _ _ _ _ _ _ _ _ _ _ _ _ _ _ _ _
   | exact LeO.none _
   | refine LeO.ite ?_ ?_
   | refine LeO.bind ?_ (fun _ => ?_)
  intro y0 y1 y2 y3 y4 y5 y6 y7 y8
  unfold spec_l6With.l2
  repeat' first
  | (with_reducible exact ih0 _ _ _ _ _ _ _)
  | (with_reducible exact ih1 _ _ _ _ _ _ _ _)
  | (with_reducible exact ih2 _ _ _ _ _ _ _ _ _)
  | (with_reducible exact spec_l6Clash3.mono _ _ _ _ _ _ _ _ _ _ _ _ _)
  | (with_reducible exact spec_l6Clash4.mono _ _ _ _ _ _ _ _ _ _ _ _ _ _ _ _ _)
  | (with_reducible exact LeO.refl _)
  | (with_reducible exact LeO.none _)
  | (with_reducible refine LeO.ite ?_ ?_)
  | (with_reducible refine LeO.bind ?_ (fun _ => ?_))
  | exact ih0 _ _ _ _ _ _ _
  | exact ih1 _ _ _ _ _ _ _ _
  | exact ih2 _ _ _ _ _ _ _ _ _
  | exact spec_l6Clash3.mono _ _ _ _ _ _ _ _ _ _ _ _ _
  | exact spec_l6Clash4.mono _ _ _ _ _ _ _ _ _ _ _ _ _ _ _ _ _
  | exact LeO.none _
  | refine LeO.ite ?_ ?_
  | refine LeO.bind ?_ (fun _ => ?_)
theorem spec_l6With.mono : ∀ a0 a1 a2 a3 a4 k, LeO (spec_l6With.f k a0 a1 a2 a3 a4) (spec_l6With.f (k + 1) a0 a1 a2 a3 a4) := by
 intro a0 a1 a2 a3 a4 k
 obtain ⟨ih0, ih1, ih2⟩ := spec_l6With.mono_l k
 unfold spec_l6With.f
 repeat' first
   | (with_reducible exact ih0 _ _ _ _ _ _ _)
   | (with_reducible exact ih1 _ _ _ _ _ _ _ _)
   | (with_reducible exact ih2 _ _ _ _ _ _ _ _ _)
   | (with_reducible exact spec_l6Clash3.mono _ _ _ _ _ _ _ _ _ _ _ _ _)
   | (with_reducible exact spec_l6Clash4.mono _ _ _ _ _ _ _ _ _ _ _ _ _ _ _ _ _)
   | (with_reducible exact LeO.refl _)
   | (with_reducible exact LeO.none _)
   | (with_reducible refine LeO.ite ?_ ?_)
   | (with_reducible refine LeO.bind ?_ (fun _ => ?_))
   | exact ih0 _ _ _ _ _ _ _
   | exact ih1 _ _ _ _ _ _ _ _
   | exact ih2 _ _ _ _ _ _ _ _ _
   | exact spec_l6Clash3.mono _ _ _ _ _ _ _ _ _ _ _ _ _
   | exact spec_l6Clash4.mono _ _ _ _ _ _ _ _ _ _ _ _ _ _ _ _ _
   | exact LeO.none _
   | refine LeO.ite ?_ ?_
   | refine LeO.bind ?_ (fun _ => ?_)
def spec_l6With.T10 : Bool × List (List Nat × List Nat) := (true, [([], []), ([], []), ([0, 1], [0, 1]), ([2], [2]), ([], []), ([], []), ([4, 5], [4, 5]), ([6], [6]), ([], []), ([3, 7, 8], [3, 7, 8])])
def spec_l6With.B10 : List Nat := [0, 0, 3, 7, 0, 0, 48, 112, 0, 511]
theorem spec_l6With.tab10 : rtab .any (opsOf Try.f136 10) = spec_l6With.T10 := by kernel_rfl
theorem spec_l6With.bits10 : waitsOk spec_l6With.T10.2 spec_l6With.B10 = true := by kernel_rfl
def spec_l6With.T15 : Bool × List (List Nat × List Nat) := (true, [([], []), ([], []), ([0, 1], [0, 1]), ([2], [2]), ([], []), ([], []), ([4, 5], [4, 5]), ([6], [6]), ([], []), ([], []), ([8, 9], [8, 9]), ([10], [10]), ([], []), ([3, 7, 11, 12], [3, 7, 11, 12])])
def spec_l6With.B15 : List Nat := [0, 0, 3, 7, 0, 0, 48, 112, 0, 0, 768, 1792, 0, 8191]
theorem spec_l6With.tab15 : rtab .any (opsOf Try.f136 15) = spec_l6With.T15 := by kernel_rfl
theorem spec_l6With.bits15 : waitsOk spec_l6With.T15.2 spec_l6With.B15 = true := by kernel_rfl
set_option maxHeartbeats 8000000 in
set_option maxRecDepth 100000 in
theorem spec_l6With.calls (k : Nat) (A0 : Option Addr) (c0 : Nat) (l0 : List (S23)) (a1_0 : Int) (a1_1 : Int) (a1_2 : Int) (a1_3 : Int) (r : Bool) (w : World) (hr0 : Kd.C k23 w A0 l0.length l0) (hc0 : l0.length ≤ c0) (h : spec_l6With.f k l0 a1_0 a1_1 a1_2 a1_3 = some r) :
  Calls Try.prog 136 #[.slice A0 l0.length c0, .agg #[.int .i64 a1_0, .int .i64 a1_1, .int .i64 a1_2, .int .i64 a1_3]] w fun e w' => e = .returned (.bool r) ∧ Below w.heap.size w w' := by
 have hu23 := Try.underlying23
 have HR0 := Aside0.mk hr0
 have HC0 := Aside0.mk hc0
 clear hr0 hc0
 have HB := Aside0.mk (Below.refl w.heap.size w)
 have H : (spec_l6With.l0 k l0 (l0.length : Int) 0 a1_0 a1_1 a1_2 a1_3) = some r := h
 clear h
 have H' := Aside0.mk H
 clear H
 go_enter Try.func136, Try.ntmps136
 go_wp2_with (first | ((with_reducible refine gate_dst (N := 3) rfl ?_); refine box_event ?hg (N := 3) ?hd (cs := #[.int .i64 a1_0, .int .i64 a1_1, .int .i64 a1_2, .int .i64 a1_3]) (t := 23) ?hr ?_; (case hd => rfl); (case hg => rfl); (case hr => first | (go_simp; done) | (go_simp; rfl)); intro g1 hg w3 hbox hb; have bK1 := Aside0.mk (hbox); have bW1 := gx hg HB; have bE1 := gx hg HB; replace HB := bt HB hb; clear hb hbox hg))
 go_loopg [6] k (fun kq v6 w' => ∃ (x6_1 : Int), v6 = .int .i64 x6_1 ∧ Aside0 (spec_l6With.l0 kq l0 (l0.length : Int) x6_1 a1_0 a1_1 a1_2 a1_3 = some r) ∧ Aside0 (kq ≤ k) ∧ Aside0 (w'.heap[g1]? = some (.cells #[.int .i64 a1_0, .int .i64 a1_1, .int .i64 a1_2, .int .i64 a1_3] 23 (0, 0))) ∧ Aside0 (Below w.heap.size w w'))
 case atStart => exact ⟨(0), re, H', ⟨Nat.le_refl _⟩, ⟨by (with_reducible repeat (first | refine blk_drewN ?_ _ | refine blk_drew ?_ | refine blk_alloc ?_ _)); exact bK1.out⟩, ⟨by repeat (first | (with_reducible first | exact HB.out | apply below_alloc | apply pw_below_drewN | apply below_drew1 | refine below_set ?_ bE1.out) | exact HB.out)⟩⟩
 case round =>
  clear H'
  obtain ⟨x6_1, rfl, HA, HK1, bK1, HB⟩ := hrel
  cases gk with
  | zero => exact absurd HA.out (by simp [spec_l6With.l0])
  | succ k1 =>
   have H := HA.out
   clear HA
   simp only [spec_l6With.l0] at H
   by_cases c4 : x6_1 < (l0.length : Int)
   ·rw [if_pos c4] at H
    have c4b0 : decide (x6_1 < (l0.length : Int)) = true := decide_eq_true c4
    clear c4
    by_cases c5 : 0 ≤ x6_1
    ·rw [if_pos c5] at H
     have c5b0 : decide (0 ≤ x6_1) = true := decide_eq_true c5
     clear c5
     by_cases c6 : x6_1 < (l0.length : Int)
     ·rw [if_pos c6] at H
      have c6b0 : decide (x6_1 < (l0.length : Int)) = true := decide_eq_true c6
      clear c6
      obtain ⟨t205, A7, H⟩ := bi H
      by_cases c8 : t205 = true
      ·subst c8
       have H1 : (some true) = some r := by rw [if_pos rfl] at H; exact H
       clear H
       have H := H1
       clear H1
       obtain rfl := Option.some.inj H
       try go_wp2
       replace bK1 := Aside0.mk (blk_drew bK1.out)
       replace HB := Aside0.mk (below_drew1 HB.out)
       have p204 : 0 ≤ (x6_1 : Int) := dk
       have q204 : x6_1 < (l0.length : Int) := dk
       obtain ⟨ad204, e204, hx204_0, hx204_1, hx204_2, hx204_3⟩ := at_T23 HR0.out x6_1 p204 q204
       have hw204_3 := hx204_3
       have hw204_2 := hx204_2
       have hw204_1 := hx204_1
       have hw204_0 := hx204_0
       cases e204
       replace hx204_0 := hc HB hx204_0
       replace hx204_1 := hc HB hx204_1
       replace hx204_2 := hc HB hx204_2
       replace hx204_3 := hc HB hx204_3
       replace p204 := eq_true p204
       replace q204 := eq_true q204
       refine start_ (n := 6) (S := fun w' => w'.cell? ⟨g1, 0, none⟩ = some (.int .i64 a1_0) ∧ w'.cell? ⟨g1, 1, none⟩ = some (.int .i64 a1_1) ∧ w'.cell? ⟨g1, 2, none⟩ = some (.int .i64 a1_2) ∧ w'.cell? ⟨g1, 3, none⟩ = some (.int .i64 a1_3) ∧ w'.cell? (ad204.add ((x6_1).toNat * 4)) = some (.int .i64 ((rd_T23 l0 x6_1).f0)) ∧ w'.cell? ⟨(ad204.add ((x6_1).toNat * 4)).block, (ad204.add ((x6_1).toNat * 4)).off + 1, none⟩ = some (.int .i64 ((rd_T23 l0 x6_1).f1)) ∧ w'.cell? ⟨(ad204.add ((x6_1).toNat * 4)).block, (ad204.add ((x6_1).toNat * 4)).off + 2, none⟩ = some (.int .i64 ((rd_T23 l0 x6_1).f2)) ∧ w'.cell? ⟨(ad204.add ((x6_1).toNat * 4)).block, (ad204.add ((x6_1).toNat * 4)).off + 3, none⟩ = some (.int .i64 ((rd_T23 l0 x6_1).f3))) (ds := []) (bl 6 0) (by kernel_rfl) rfl rfl ⟨(blk_cell bK1.out 0).trans rfl, (blk_cell bK1.out 1).trans rfl, (blk_cell bK1.out 2).trans rfl, (blk_cell bK1.out 3).trans rfl, ((HB.out.cell (World.block_lt_of_cell? w _ hw204_0)).trans hw204_0), ((HB.out.cell (World.block_lt_of_cell? w _ hw204_1)).trans hw204_1), ((HB.out.cell (World.block_lt_of_cell? w _ hw204_2)).trans hw204_2), ((HB.out.cell (World.block_lt_of_cell? w _ hw204_3)).trans hw204_3)⟩ (fun hHeld => ?_)
       generalize wr.drew = w9 at bK1 HB hx204_0 hx204_1 hx204_2 hx204_3 hHeld ⊢
       refine pK 0 16 1 ?_
       refine pK 1 17 3 ?_
       refine pK 2 18 7 ?_
       refine take_ (i := 3) (N := some 19) (v := ?_) (a' := ?_) (bl 6 15) rfl rfl (by kernel_rfl) (fun _ _ _ h => h) (Or.inl ⟨by rfl, ?_⟩) hHeld ?_ ?_
       rotate_left
       ·rintro w' ⟨s0, s1, s2, s3, s4, s5, s6, s7⟩
        go_simp
        with_reducible rfl
       rotate_left
       ·simp only [Act.put, List.setIfInBounds_toArray, List.set_cons_zero, List.set_cons_succ, i64_w, i32_w]
        rfl
       refine take_ (i := 4) (N := some 20) (v := ?_) (a' := ?_) (bl 6 31) rfl rfl (by kernel_rfl) (fun _ _ _ h => h) (Or.inl ⟨by rfl, ?_⟩) hHeld ?_ ?_
       rotate_left
       ·rintro w' ⟨s0, s1, s2, s3, s4, s5, s6, s7⟩
        go_simp
        with_reducible rfl
       rotate_left
       ·simp only [Act.put, List.setIfInBounds_toArray, List.set_cons_zero, List.set_cons_succ, i64_w, i32_w]
        rfl
       refine one_ (i := 5) (N := some 21) (bl 6 63) rfl rfl (by kernel_rfl) (by decide) (fun K hK => ?_)
       refine gO Try.func161 #[.agg #[.int .i64 ((rd_T23 l0 x6_1).f0), .int .i64 ((rd_T23 l0 x6_1).f1), .int .i64 ((rd_T23 l0 x6_1).f2), .int .i64 ((rd_T23 l0 x6_1).f3)], .agg #[.int .i64 a1_0, .int .i64 a1_1, .int .i64 a1_2, .int .i64 a1_3]] ?_
       with_reducible refine (spec_l6Clash2.calls ((rd_T23 l0 x6_1).f0) ((rd_T23 l0 x6_1).f1) ((rd_T23 l0 x6_1).f2) ((rd_T23 l0 x6_1).f3) a1_0 a1_1 a1_2 a1_3 true _ A7.out).mono ?_
       rintro e w10 ⟨rfl, hb⟩
       refine ⟨_, rfl, ?_⟩
       replace bK1 := kb bK1 hb
       replace HB := bt HB hb
       (try clear hb)
       (try clear hb2)
       (try clear hk)
       (try clear hi)
       refine hK.out _ _ ⟨(blk_cell bK1.out 0).trans rfl, (blk_cell bK1.out 1).trans rfl, (blk_cell bK1.out 2).trans rfl, (blk_cell bK1.out 3).trans rfl, ((HB.out.cell (World.block_lt_of_cell? w _ hw204_0)).trans hw204_0), ((HB.out.cell (World.block_lt_of_cell? w _ hw204_1)).trans hw204_1), ((HB.out.cell (World.block_lt_of_cell? w _ hw204_2)).trans hw204_2), ((HB.out.cell (World.block_lt_of_cell? w _ hw204_3)).trans hw204_3)⟩ (fun hHeld => ?_)
       clear hK K
       refine nm 21 ?_
       refine done_ (by kernel_rfl) ?_
       try go_wp2
       go_ret
       exact fin HB
      replace c8 := Bool.eq_false_iff.mpr c8
      subst c8
      have H1 : (spec_l6With.l1 k1 l0 (l0.length : Int) x6_1 (wrap64 (x6_1 + 1)) a1_0 a1_1 a1_2 a1_3) = some r := by rw [if_neg (show ¬ (false = true) by decide)] at H; exact H
      clear H
      have H := H1
      clear H1
      have H' := Aside0.mk H
      clear H
      try go_wp2
      replace bK1 := Aside0.mk (blk_drew bK1.out)
      replace HB := Aside0.mk (below_drew1 HB.out)
      have p204 : 0 ≤ (x6_1 : Int) := dk
      have q204 : x6_1 < (l0.length : Int) := dk
      obtain ⟨ad204, e204, hx204_0, hx204_1, hx204_2, hx204_3⟩ := at_T23 HR0.out x6_1 p204 q204
      have hw204_3 := hx204_3
      have hw204_2 := hx204_2
      have hw204_1 := hx204_1
      have hw204_0 := hx204_0
      cases e204
      replace hx204_0 := hc HB hx204_0
      replace hx204_1 := hc HB hx204_1
      replace hx204_2 := hc HB hx204_2
      replace hx204_3 := hc HB hx204_3
      replace p204 := eq_true p204
      replace q204 := eq_true q204
      refine start_ (n := 6) (S := fun w' => w'.cell? ⟨g1, 0, none⟩ = some (.int .i64 a1_0) ∧ w'.cell? ⟨g1, 1, none⟩ = some (.int .i64 a1_1) ∧ w'.cell? ⟨g1, 2, none⟩ = some (.int .i64 a1_2) ∧ w'.cell? ⟨g1, 3, none⟩ = some (.int .i64 a1_3) ∧ w'.cell? (ad204.add ((x6_1).toNat * 4)) = some (.int .i64 ((rd_T23 l0 x6_1).f0)) ∧ w'.cell? ⟨(ad204.add ((x6_1).toNat * 4)).block, (ad204.add ((x6_1).toNat * 4)).off + 1, none⟩ = some (.int .i64 ((rd_T23 l0 x6_1).f1)) ∧ w'.cell? ⟨(ad204.add ((x6_1).toNat * 4)).block, (ad204.add ((x6_1).toNat * 4)).off + 2, none⟩ = some (.int .i64 ((rd_T23 l0 x6_1).f2)) ∧ w'.cell? ⟨(ad204.add ((x6_1).toNat * 4)).block, (ad204.add ((x6_1).toNat * 4)).off + 3, none⟩ = some (.int .i64 ((rd_T23 l0 x6_1).f3))) (ds := []) (bl 6 0) (by kernel_rfl) rfl rfl ⟨(blk_cell bK1.out 0).trans rfl, (blk_cell bK1.out 1).trans rfl, (blk_cell bK1.out 2).trans rfl, (blk_cell bK1.out 3).trans rfl, ((HB.out.cell (World.block_lt_of_cell? w _ hw204_0)).trans hw204_0), ((HB.out.cell (World.block_lt_of_cell? w _ hw204_1)).trans hw204_1), ((HB.out.cell (World.block_lt_of_cell? w _ hw204_2)).trans hw204_2), ((HB.out.cell (World.block_lt_of_cell? w _ hw204_3)).trans hw204_3)⟩ (fun hHeld => ?_)
      generalize wr.drew = w11 at bK1 HB hx204_0 hx204_1 hx204_2 hx204_3 hHeld ⊢
      refine pK 0 16 1 ?_
      refine pK 1 17 3 ?_
      refine pK 2 18 7 ?_
      refine take_ (i := 3) (N := some 19) (v := ?_) (a' := ?_) (bl 6 15) rfl rfl (by kernel_rfl) (fun _ _ _ h => h) (Or.inl ⟨by rfl, ?_⟩) hHeld ?_ ?_
      rotate_left
      ·rintro w' ⟨s0, s1, s2, s3, s4, s5, s6, s7⟩
       go_simp
       with_reducible rfl
      rotate_left
      ·simp only [Act.put, List.setIfInBounds_toArray, List.set_cons_zero, List.set_cons_succ, i64_w, i32_w]
       rfl
      refine take_ (i := 4) (N := some 20) (v := ?_) (a' := ?_) (bl 6 31) rfl rfl (by kernel_rfl) (fun _ _ _ h => h) (Or.inl ⟨by rfl, ?_⟩) hHeld ?_ ?_
      rotate_left
      ·rintro w' ⟨s0, s1, s2, s3, s4, s5, s6, s7⟩
       go_simp
       with_reducible rfl
      rotate_left
      ·simp only [Act.put, List.setIfInBounds_toArray, List.set_cons_zero, List.set_cons_succ, i64_w, i32_w]
       rfl
      refine one_ (i := 5) (N := some 21) (bl 6 63) rfl rfl (by kernel_rfl) (by decide) (fun K hK => ?_)
      refine gO Try.func161 #[.agg #[.int .i64 ((rd_T23 l0 x6_1).f0), .int .i64 ((rd_T23 l0 x6_1).f1), .int .i64 ((rd_T23 l0 x6_1).f2), .int .i64 ((rd_T23 l0 x6_1).f3)], .agg #[.int .i64 a1_0, .int .i64 a1_1, .int .i64 a1_2, .int .i64 a1_3]] ?_
      with_reducible refine (spec_l6Clash2.calls ((rd_T23 l0 x6_1).f0) ((rd_T23 l0 x6_1).f1) ((rd_T23 l0 x6_1).f2) ((rd_T23 l0 x6_1).f3) a1_0 a1_1 a1_2 a1_3 false _ A7.out).mono ?_
      rintro e w12 ⟨rfl, hb⟩
      refine ⟨_, rfl, ?_⟩
      replace bK1 := kb bK1 hb
      replace HB := bt HB hb
      (try clear hb)
      (try clear hb2)
      (try clear hk)
      (try clear hi)
      refine hK.out _ _ ⟨(blk_cell bK1.out 0).trans rfl, (blk_cell bK1.out 1).trans rfl, (blk_cell bK1.out 2).trans rfl, (blk_cell bK1.out 3).trans rfl, ((HB.out.cell (World.block_lt_of_cell? w _ hw204_0)).trans hw204_0), ((HB.out.cell (World.block_lt_of_cell? w _ hw204_1)).trans hw204_1), ((HB.out.cell (World.block_lt_of_cell? w _ hw204_2)).trans hw204_2), ((HB.out.cell (World.block_lt_of_cell? w _ hw204_3)).trans hw204_3)⟩ (fun hHeld => ?_)
      clear hK K
      refine nm 21 ?_
      refine done_ (by kernel_rfl) ?_
      try go_wp2
      go_loopg [7] k1 (fun kq v7 w' => ∃ (x7_2 : Int), v7 = .int .i64 x7_2 ∧ Aside0 (spec_l6With.l1 kq l0 (l0.length : Int) x6_1 x7_2 a1_0 a1_1 a1_2 a1_3 = some r) ∧ Aside0 (kq ≤ k1) ∧ Aside0 (w'.heap[g1]? = some (.cells #[.int .i64 a1_0, .int .i64 a1_1, .int .i64 a1_2, .int .i64 a1_3] 23 (0, 0))) ∧ Aside0 (Below w.heap.size w w'))
      case atStart => exact ⟨(wrap64 (x6_1 + 1)), re, H', ⟨Nat.le_refl _⟩, ⟨by (with_reducible repeat (first | refine blk_drewN ?_ _ | refine blk_drew ?_ | refine blk_alloc ?_ _)); exact bK1.out⟩, ⟨by repeat (first | (with_reducible first | exact HB.out | apply below_alloc | apply pw_below_drewN | apply below_drew1 | refine below_set ?_ bE1.out) | exact HB.out)⟩⟩
      case round =>
       clear H'
       obtain ⟨x7_2, rfl, HA, HK2, bK1, HB⟩ := hrel
       cases gk with
       | zero => exact absurd HA.out (by simp [spec_l6With.l1])
       | succ k2 =>
        have H := HA.out
        clear HA
        simp only [spec_l6With.l1] at H
        by_cases c13 : x7_2 < (l0.length : Int)
        ·rw [if_pos c13] at H
         have c13b0 : decide (x7_2 < (l0.length : Int)) = true := decide_eq_true c13
         clear c13
         by_cases c14 : 0 ≤ x6_1
         ·rw [if_pos c14] at H
          have c14b0 : decide (0 ≤ x6_1) = true := decide_eq_true c14
          clear c14
          by_cases c15 : x6_1 < (l0.length : Int)
          ·rw [if_pos c15] at H
           have c15b0 : decide (x6_1 < (l0.length : Int)) = true := decide_eq_true c15
           clear c15
           by_cases c16 : 0 ≤ x7_2
           ·rw [if_pos c16] at H
            have c16b0 : decide (0 ≤ x7_2) = true := decide_eq_true c16
            clear c16
            by_cases c17 : x7_2 < (l0.length : Int)
            ·rw [if_pos c17] at H
             have c17b0 : decide (x7_2 < (l0.length : Int)) = true := decide_eq_true c17
             clear c17
             obtain ⟨t208, A18, H⟩ := bi H
             by_cases c19 : t208 = true
             ·subst c19
              have H1 : (some true) = some r := by rw [if_pos rfl] at H; exact H
              clear H
              have H := H1
              clear H1
              obtain rfl := Option.some.inj H
              try go_wp2
              replace bK1 := Aside0.mk (blk_drew bK1.out)
              replace HB := Aside0.mk (below_drew1 HB.out)
              have p206 : 0 ≤ (x6_1 : Int) := dk
              have q206 : x6_1 < (l0.length : Int) := dk
              obtain ⟨ad206, e206, hx206_0, hx206_1, hx206_2, hx206_3⟩ := at_T23 HR0.out x6_1 p206 q206
              have hw206_3 := hx206_3
              have hw206_2 := hx206_2
              have hw206_1 := hx206_1
              have hw206_0 := hx206_0
              obtain rfl : ad204 = ad206 := (by injection e206)
              replace hx206_0 := hc HB hx206_0
              replace hx206_1 := hc HB hx206_1
              replace hx206_2 := hc HB hx206_2
              replace hx206_3 := hc HB hx206_3
              replace p206 := eq_true p206
              replace q206 := eq_true q206
              have p207 : 0 ≤ (x7_2 : Int) := dk
              have q207 : x7_2 < (l0.length : Int) := dk
              obtain ⟨ad207, e207, hx207_0, hx207_1, hx207_2, hx207_3⟩ := at_T23 HR0.out x7_2 p207 q207
              have hw207_3 := hx207_3
              have hw207_2 := hx207_2
              have hw207_1 := hx207_1
              have hw207_0 := hx207_0
              obtain rfl : ad204 = ad207 := (by injection e207)
              replace hx207_0 := hc HB hx207_0
              replace hx207_1 := hc HB hx207_1
              replace hx207_2 := hc HB hx207_2
              replace hx207_3 := hc HB hx207_3
              replace p207 := eq_true p207
              replace q207 := eq_true q207
              refine start_ (n := 10) (S := fun w' => w'.cell? ⟨g1, 0, none⟩ = some (.int .i64 a1_0) ∧ w'.cell? ⟨g1, 1, none⟩ = some (.int .i64 a1_1) ∧ w'.cell? ⟨g1, 2, none⟩ = some (.int .i64 a1_2) ∧ w'.cell? ⟨g1, 3, none⟩ = some (.int .i64 a1_3) ∧ w'.cell? (ad204.add ((x6_1).toNat * 4)) = some (.int .i64 ((rd_T23 l0 x6_1).f0)) ∧ w'.cell? ⟨(ad204.add ((x6_1).toNat * 4)).block, (ad204.add ((x6_1).toNat * 4)).off + 1, none⟩ = some (.int .i64 ((rd_T23 l0 x6_1).f1)) ∧ w'.cell? ⟨(ad204.add ((x6_1).toNat * 4)).block, (ad204.add ((x6_1).toNat * 4)).off + 2, none⟩ = some (.int .i64 ((rd_T23 l0 x6_1).f2)) ∧ w'.cell? ⟨(ad204.add ((x6_1).toNat * 4)).block, (ad204.add ((x6_1).toNat * 4)).off + 3, none⟩ = some (.int .i64 ((rd_T23 l0 x6_1).f3)) ∧ w'.cell? (ad204.add ((x7_2).toNat * 4)) = some (.int .i64 ((rd_T23 l0 x7_2).f0)) ∧ w'.cell? ⟨(ad204.add ((x7_2).toNat * 4)).block, (ad204.add ((x7_2).toNat * 4)).off + 1, none⟩ = some (.int .i64 ((rd_T23 l0 x7_2).f1)) ∧ w'.cell? ⟨(ad204.add ((x7_2).toNat * 4)).block, (ad204.add ((x7_2).toNat * 4)).off + 2, none⟩ = some (.int .i64 ((rd_T23 l0 x7_2).f2)) ∧ w'.cell? ⟨(ad204.add ((x7_2).toNat * 4)).block, (ad204.add ((x7_2).toNat * 4)).off + 3, none⟩ = some (.int .i64 ((rd_T23 l0 x7_2).f3))) (ds := []) (bl 10 0) (by kernel_rfl) rfl rfl ⟨(blk_cell bK1.out 0).trans rfl, (blk_cell bK1.out 1).trans rfl, (blk_cell bK1.out 2).trans rfl, (blk_cell bK1.out 3).trans rfl, ((HB.out.cell (World.block_lt_of_cell? w _ hw206_0)).trans hw206_0), ((HB.out.cell (World.block_lt_of_cell? w _ hw206_1)).trans hw206_1), ((HB.out.cell (World.block_lt_of_cell? w _ hw206_2)).trans hw206_2), ((HB.out.cell (World.block_lt_of_cell? w _ hw206_3)).trans hw206_3), ((HB.out.cell (World.block_lt_of_cell? w _ hw207_0)).trans hw207_0), ((HB.out.cell (World.block_lt_of_cell? w _ hw207_1)).trans hw207_1), ((HB.out.cell (World.block_lt_of_cell? w _ hw207_2)).trans hw207_2), ((HB.out.cell (World.block_lt_of_cell? w _ hw207_3)).trans hw207_3)⟩ (fun hHeld => ?_); refine with_tabW spec_l6With.tab10 spec_l6With.bits10 (fun HT_ HW_ => ?_)
              generalize wr.drew = w20 at bK1 HB hx206_0 hx206_1 hx206_2 hx206_3 hx207_0 hx207_1 hx207_2 hx207_3 hHeld ⊢
              refine pS 0 29 1 ?_
              refine pS 1 30 3 ?_
              refine pS 2 31 7 ?_
              refine pS 4 33 23 ?_
              refine pS 5 34 55 ?_
              refine pS 6 35 119 ?_
              refine tS 3 32 127 ?_
              refine tS 7 36 255 ?_
              refine tS 8 37 511 ?_
              refine oS 9 38 1023 (fun K hK => ?_)
              refine gO Try.func162 #[.agg #[.int .i64 ((rd_T23 l0 x6_1).f0), .int .i64 ((rd_T23 l0 x6_1).f1), .int .i64 ((rd_T23 l0 x6_1).f2), .int .i64 ((rd_T23 l0 x6_1).f3)], .agg #[.int .i64 ((rd_T23 l0 x7_2).f0), .int .i64 ((rd_T23 l0 x7_2).f1), .int .i64 ((rd_T23 l0 x7_2).f2), .int .i64 ((rd_T23 l0 x7_2).f3)], .agg #[.int .i64 a1_0, .int .i64 a1_1, .int .i64 a1_2, .int .i64 a1_3]] ?_
              with_reducible refine (spec_l6Clash3.calls k2 ((rd_T23 l0 x6_1).f0) ((rd_T23 l0 x6_1).f1) ((rd_T23 l0 x6_1).f2) ((rd_T23 l0 x6_1).f3) ((rd_T23 l0 x7_2).f0) ((rd_T23 l0 x7_2).f1) ((rd_T23 l0 x7_2).f2) ((rd_T23 l0 x7_2).f3) a1_0 a1_1 a1_2 a1_3 true _ A18.out).mono ?_
              rintro e w21 ⟨rfl, hb⟩
              refine ⟨_, rfl, ?_⟩
              replace bK1 := kb bK1 hb
              replace HB := bt HB hb
              (try clear hb)
              (try clear hb2)
              (try clear hk)
              (try clear hi)
              refine hK.out _ _ ⟨(blk_cell bK1.out 0).trans rfl, (blk_cell bK1.out 1).trans rfl, (blk_cell bK1.out 2).trans rfl, (blk_cell bK1.out 3).trans rfl, ((HB.out.cell (World.block_lt_of_cell? w _ hw206_0)).trans hw206_0), ((HB.out.cell (World.block_lt_of_cell? w _ hw206_1)).trans hw206_1), ((HB.out.cell (World.block_lt_of_cell? w _ hw206_2)).trans hw206_2), ((HB.out.cell (World.block_lt_of_cell? w _ hw206_3)).trans hw206_3), ((HB.out.cell (World.block_lt_of_cell? w _ hw207_0)).trans hw207_0), ((HB.out.cell (World.block_lt_of_cell? w _ hw207_1)).trans hw207_1), ((HB.out.cell (World.block_lt_of_cell? w _ hw207_2)).trans hw207_2), ((HB.out.cell (World.block_lt_of_cell? w _ hw207_3)).trans hw207_3)⟩ (fun hHeld => ?_)
              clear hK K
              refine nm 38 ?_
              refine done_ (done_of HT_.out (by kernel_rfl)) ?_
              try go_wp2
              go_ret
              exact fin HB
             replace c19 := Bool.eq_false_iff.mpr c19
             subst c19
             have H1 : (spec_l6With.l2 k2 l0 (l0.length : Int) x6_1 x7_2 (wrap64 (x7_2 + 1)) a1_0 a1_1 a1_2 a1_3) = some r := by rw [if_neg (show ¬ (false = true) by decide)] at H; exact H
             clear H
             have H := H1
             clear H1
             have H' := Aside0.mk H
             clear H
             try go_wp2
             replace bK1 := Aside0.mk (blk_drew bK1.out)
             replace HB := Aside0.mk (below_drew1 HB.out)
             have p206 : 0 ≤ (x6_1 : Int) := dk
             have q206 : x6_1 < (l0.length : Int) := dk
             obtain ⟨ad206, e206, hx206_0, hx206_1, hx206_2, hx206_3⟩ := at_T23 HR0.out x6_1 p206 q206
             have hw206_3 := hx206_3
             have hw206_2 := hx206_2
             have hw206_1 := hx206_1
             have hw206_0 := hx206_0
             obtain rfl : ad204 = ad206 := (by injection e206)
             replace hx206_0 := hc HB hx206_0
             replace hx206_1 := hc HB hx206_1
             replace hx206_2 := hc HB hx206_2
             replace hx206_3 := hc HB hx206_3
             replace p206 := eq_true p206
             replace q206 := eq_true q206
             have p207 : 0 ≤ (x7_2 : Int) := dk
             have q207 : x7_2 < (l0.length : Int) := dk
             obtain ⟨ad207, e207, hx207_0, hx207_1, hx207_2, hx207_3⟩ := at_T23 HR0.out x7_2 p207 q207
             have hw207_3 := hx207_3
             have hw207_2 := hx207_2
             have hw207_1 := hx207_1
             have hw207_0 := hx207_0
             obtain rfl : ad204 = ad207 := (by injection e207)
             replace hx207_0 := hc HB hx207_0
             replace hx207_1 := hc HB hx207_1
             replace hx207_2 := hc HB hx207_2
             replace hx207_3 := hc HB hx207_3
             replace p207 := eq_true p207
             replace q207 := eq_true q207
             refine start_ (n := 10) (S := fun w' => w'.cell? ⟨g1, 0, none⟩ = some (.int .i64 a1_0) ∧ w'.cell? ⟨g1, 1, none⟩ = some (.int .i64 a1_1) ∧ w'.cell? ⟨g1, 2, none⟩ = some (.int .i64 a1_2) ∧ w'.cell? ⟨g1, 3, none⟩ = some (.int .i64 a1_3) ∧ w'.cell? (ad204.add ((x6_1).toNat * 4)) = some (.int .i64 ((rd_T23 l0 x6_1).f0)) ∧ w'.cell? ⟨(ad204.add ((x6_1).toNat * 4)).block, (ad204.add ((x6_1).toNat * 4)).off + 1, none⟩ = some (.int .i64 ((rd_T23 l0 x6_1).f1)) ∧ w'.cell? ⟨(ad204.add ((x6_1).toNat * 4)).block, (ad204.add ((x6_1).toNat * 4)).off + 2, none⟩ = some (.int .i64 ((rd_T23 l0 x6_1).f2)) ∧ w'.cell? ⟨(ad204.add ((x6_1).toNat * 4)).block, (ad204.add ((x6_1).toNat * 4)).off + 3, none⟩ = some (.int .i64 ((rd_T23 l0 x6_1).f3)) ∧ w'.cell? (ad204.add ((x7_2).toNat * 4)) = some (.int .i64 ((rd_T23 l0 x7_2).f0)) ∧ w'.cell? ⟨(ad204.add ((x7_2).toNat * 4)).block, (ad204.add ((x7_2).toNat * 4)).off + 1, none⟩ = some (.int .i64 ((rd_T23 l0 x7_2).f1)) ∧ w'.cell? ⟨(ad204.add ((x7_2).toNat * 4)).block, (ad204.add ((x7_2).toNat * 4)).off + 2, none⟩ = some (.int .i64 ((rd_T23 l0 x7_2).f2)) ∧ w'.cell? ⟨(ad204.add ((x7_2).toNat * 4)).block, (ad204.add ((x7_2).toNat * 4)).off + 3, none⟩ = some (.int .i64 ((rd_T23 l0 x7_2).f3))) (ds := []) (bl 10 0) (by kernel_rfl) rfl rfl ⟨(blk_cell bK1.out 0).trans rfl, (blk_cell bK1.out 1).trans rfl, (blk_cell bK1.out 2).trans rfl, (blk_cell bK1.out 3).trans rfl, ((HB.out.cell (World.block_lt_of_cell? w _ hw206_0)).trans hw206_0), ((HB.out.cell (World.block_lt_of_cell? w _ hw206_1)).trans hw206_1), ((HB.out.cell (World.block_lt_of_cell? w _ hw206_2)).trans hw206_2), ((HB.out.cell (World.block_lt_of_cell? w _ hw206_3)).trans hw206_3), ((HB.out.cell (World.block_lt_of_cell? w _ hw207_0)).trans hw207_0), ((HB.out.cell (World.block_lt_of_cell? w _ hw207_1)).trans hw207_1), ((HB.out.cell (World.block_lt_of_cell? w _ hw207_2)).trans hw207_2), ((HB.out.cell (World.block_lt_of_cell? w _ hw207_3)).trans hw207_3)⟩ (fun hHeld => ?_); refine with_tabW spec_l6With.tab10 spec_l6With.bits10 (fun HT_ HW_ => ?_)
             generalize wr.drew = w22 at bK1 HB hx206_0 hx206_1 hx206_2 hx206_3 hx207_0 hx207_1 hx207_2 hx207_3 hHeld ⊢
             refine pS 0 29 1 ?_
             refine pS 1 30 3 ?_
             refine pS 2 31 7 ?_
             refine pS 4 33 23 ?_
             refine pS 5 34 55 ?_
             refine pS 6 35 119 ?_
             refine tS 3 32 127 ?_
             refine tS 7 36 255 ?_
             refine tS 8 37 511 ?_
             refine oS 9 38 1023 (fun K hK => ?_)
             refine gO Try.func162 #[.agg #[.int .i64 ((rd_T23 l0 x6_1).f0), .int .i64 ((rd_T23 l0 x6_1).f1), .int .i64 ((rd_T23 l0 x6_1).f2), .int .i64 ((rd_T23 l0 x6_1).f3)], .agg #[.int .i64 ((rd_T23 l0 x7_2).f0), .int .i64 ((rd_T23 l0 x7_2).f1), .int .i64 ((rd_T23 l0 x7_2).f2), .int .i64 ((rd_T23 l0 x7_2).f3)], .agg #[.int .i64 a1_0, .int .i64 a1_1, .int .i64 a1_2, .int .i64 a1_3]] ?_
             with_reducible refine (spec_l6Clash3.calls k2 ((rd_T23 l0 x6_1).f0) ((rd_T23 l0 x6_1).f1) ((rd_T23 l0 x6_1).f2) ((rd_T23 l0 x6_1).f3) ((rd_T23 l0 x7_2).f0) ((rd_T23 l0 x7_2).f1) ((rd_T23 l0 x7_2).f2) ((rd_T23 l0 x7_2).f3) a1_0 a1_1 a1_2 a1_3 false _ A18.out).mono ?_
             rintro e w23 ⟨rfl, hb⟩
             refine ⟨_, rfl, ?_⟩
             replace bK1 := kb bK1 hb
             replace HB := bt HB hb
             (try clear hb)
             (try clear hb2)
             (try clear hk)
             (try clear hi)
             refine hK.out _ _ ⟨(blk_cell bK1.out 0).trans rfl, (blk_cell bK1.out 1).trans rfl, (blk_cell bK1.out 2).trans rfl, (blk_cell bK1.out 3).trans rfl, ((HB.out.cell (World.block_lt_of_cell? w _ hw206_0)).trans hw206_0), ((HB.out.cell (World.block_lt_of_cell? w _ hw206_1)).trans hw206_1), ((HB.out.cell (World.block_lt_of_cell? w _ hw206_2)).trans hw206_2), ((HB.out.cell (World.block_lt_of_cell? w _ hw206_3)).trans hw206_3), ((HB.out.cell (World.block_lt_of_cell? w _ hw207_0)).trans hw207_0), ((HB.out.cell (World.block_lt_of_cell? w _ hw207_1)).trans hw207_1), ((HB.out.cell (World.block_lt_of_cell? w _ hw207_2)).trans hw207_2), ((HB.out.cell (World.block_lt_of_cell? w _ hw207_3)).trans hw207_3)⟩ (fun hHeld => ?_)
             clear hK K
             refine nm 38 ?_
             refine done_ (done_of HT_.out (by kernel_rfl)) ?_
             try go_wp2
             go_loopg [8] k2 (fun kq v8 w' => ∃ (x8_3 : Int), v8 = .int .i64 x8_3 ∧ Aside0 (spec_l6With.l2 kq l0 (l0.length : Int) x6_1 x7_2 x8_3 a1_0 a1_1 a1_2 a1_3 = some r) ∧ Aside0 (kq ≤ k2) ∧ Aside0 (w'.heap[g1]? = some (.cells #[.int .i64 a1_0, .int .i64 a1_1, .int .i64 a1_2, .int .i64 a1_3] 23 (0, 0))) ∧ Aside0 (Below w.heap.size w w'))
             case atStart => exact ⟨(wrap64 (x7_2 + 1)), re, H', ⟨Nat.le_refl _⟩, ⟨by (with_reducible repeat (first | refine blk_drewN ?_ _ | refine blk_drew ?_ | refine blk_alloc ?_ _)); exact bK1.out⟩, ⟨by repeat (first | (with_reducible first | exact HB.out | apply below_alloc | apply pw_below_drewN | apply below_drew1 | refine below_set ?_ bE1.out) | exact HB.out)⟩⟩
             case round =>
              clear H'
              obtain ⟨x8_3, rfl, HA, HK3, bK1, HB⟩ := hrel
              cases gk with
              | zero => exact absurd HA.out (by simp [spec_l6With.l2])
              | succ k3 =>
               have H := HA.out
               clear HA
               simp only [spec_l6With.l2] at H
               by_cases c24 : x8_3 < (l0.length : Int)
               ·rw [if_pos c24] at H
                have c24b0 : decide (x8_3 < (l0.length : Int)) = true := decide_eq_true c24
                clear c24
                by_cases c25 : 0 ≤ x6_1
                ·rw [if_pos c25] at H
                 have c25b0 : decide (0 ≤ x6_1) = true := decide_eq_true c25
                 clear c25
                 by_cases c26 : x6_1 < (l0.length : Int)
                 ·rw [if_pos c26] at H
                  have c26b0 : decide (x6_1 < (l0.length : Int)) = true := decide_eq_true c26
                  clear c26
                  by_cases c27 : 0 ≤ x7_2
                  ·rw [if_pos c27] at H
                   have c27b0 : decide (0 ≤ x7_2) = true := decide_eq_true c27
                   clear c27
                   by_cases c28 : x7_2 < (l0.length : Int)
                   ·rw [if_pos c28] at H
                    have c28b0 : decide (x7_2 < (l0.length : Int)) = true := decide_eq_true c28
                    clear c28
                    by_cases c29 : 0 ≤ x8_3
                    ·rw [if_pos c29] at H
                     have c29b0 : decide (0 ≤ x8_3) = true := decide_eq_true c29
                     clear c29
                     by_cases c30 : x8_3 < (l0.length : Int)
                     ·rw [if_pos c30] at H
                      have c30b0 : decide (x8_3 < (l0.length : Int)) = true := decide_eq_true c30
                      clear c30
                      obtain ⟨t212, A31, H⟩ := bi H
                      by_cases c32 : t212 = true
                      ·subst c32
                       have H1 : (some true) = some r := by rw [if_pos rfl] at H; exact H
                       clear H
                       have H := H1
                       clear H1
                       obtain rfl := Option.some.inj H
                       try go_wp2
                       replace bK1 := Aside0.mk (blk_drew bK1.out)
                       replace HB := Aside0.mk (below_drew1 HB.out)
                       have p209 : 0 ≤ (x6_1 : Int) := dk
                       have q209 : x6_1 < (l0.length : Int) := dk
                       obtain ⟨ad209, e209, hx209_0, hx209_1, hx209_2, hx209_3⟩ := at_T23 HR0.out x6_1 p209 q209
                       have hw209_3 := hx209_3
                       have hw209_2 := hx209_2
                       have hw209_1 := hx209_1
                       have hw209_0 := hx209_0
                       obtain rfl : ad204 = ad209 := (by injection e209)
                       replace hx209_0 := hc HB hx209_0
                       replace hx209_1 := hc HB hx209_1
                       replace hx209_2 := hc HB hx209_2
                       replace hx209_3 := hc HB hx209_3
                       replace p209 := eq_true p209
                       replace q209 := eq_true q209
                       have p210 : 0 ≤ (x7_2 : Int) := dk
                       have q210 : x7_2 < (l0.length : Int) := dk
                       obtain ⟨ad210, e210, hx210_0, hx210_1, hx210_2, hx210_3⟩ := at_T23 HR0.out x7_2 p210 q210
                       have hw210_3 := hx210_3
                       have hw210_2 := hx210_2
                       have hw210_1 := hx210_1
                       have hw210_0 := hx210_0
                       obtain rfl : ad204 = ad210 := (by injection e210)
                       replace hx210_0 := hc HB hx210_0
                       replace hx210_1 := hc HB hx210_1
                       replace hx210_2 := hc HB hx210_2
                       replace hx210_3 := hc HB hx210_3
                       replace p210 := eq_true p210
                       replace q210 := eq_true q210
                       have p211 : 0 ≤ (x8_3 : Int) := dk
                       have q211 : x8_3 < (l0.length : Int) := dk
                       obtain ⟨ad211, e211, hx211_0, hx211_1, hx211_2, hx211_3⟩ := at_T23 HR0.out x8_3 p211 q211
                       have hw211_3 := hx211_3
                       have hw211_2 := hx211_2
                       have hw211_1 := hx211_1
                       have hw211_0 := hx211_0
                       obtain rfl : ad204 = ad211 := (by injection e211)
                       replace hx211_0 := hc HB hx211_0
                       replace hx211_1 := hc HB hx211_1
                       replace hx211_2 := hc HB hx211_2
                       replace hx211_3 := hc HB hx211_3
                       replace p211 := eq_true p211
                       replace q211 := eq_true q211
                       refine start_ (n := 14) (S := fun w' => w'.cell? ⟨g1, 0, none⟩ = some (.int .i64 a1_0) ∧ w'.cell? ⟨g1, 1, none⟩ = some (.int .i64 a1_1) ∧ w'.cell? ⟨g1, 2, none⟩ = some (.int .i64 a1_2) ∧ w'.cell? ⟨g1, 3, none⟩ = some (.int .i64 a1_3) ∧ w'.cell? (ad204.add ((x6_1).toNat * 4)) = some (.int .i64 ((rd_T23 l0 x6_1).f0)) ∧ w'.cell? ⟨(ad204.add ((x6_1).toNat * 4)).block, (ad204.add ((x6_1).toNat * 4)).off + 1, none⟩ = some (.int .i64 ((rd_T23 l0 x6_1).f1)) ∧ w'.cell? ⟨(ad204.add ((x6_1).toNat * 4)).block, (ad204.add ((x6_1).toNat * 4)).off + 2, none⟩ = some (.int .i64 ((rd_T23 l0 x6_1).f2)) ∧ w'.cell? ⟨(ad204.add ((x6_1).toNat * 4)).block, (ad204.add ((x6_1).toNat * 4)).off + 3, none⟩ = some (.int .i64 ((rd_T23 l0 x6_1).f3)) ∧ w'.cell? (ad204.add ((x7_2).toNat * 4)) = some (.int .i64 ((rd_T23 l0 x7_2).f0)) ∧ w'.cell? ⟨(ad204.add ((x7_2).toNat * 4)).block, (ad204.add ((x7_2).toNat * 4)).off + 1, none⟩ = some (.int .i64 ((rd_T23 l0 x7_2).f1)) ∧ w'.cell? ⟨(ad204.add ((x7_2).toNat * 4)).block, (ad204.add ((x7_2).toNat * 4)).off + 2, none⟩ = some (.int .i64 ((rd_T23 l0 x7_2).f2)) ∧ w'.cell? ⟨(ad204.add ((x7_2).toNat * 4)).block, (ad204.add ((x7_2).toNat * 4)).off + 3, none⟩ = some (.int .i64 ((rd_T23 l0 x7_2).f3)) ∧ w'.cell? (ad204.add ((x8_3).toNat * 4)) = some (.int .i64 ((rd_T23 l0 x8_3).f0)) ∧ w'.cell? ⟨(ad204.add ((x8_3).toNat * 4)).block, (ad204.add ((x8_3).toNat * 4)).off + 1, none⟩ = some (.int .i64 ((rd_T23 l0 x8_3).f1)) ∧ w'.cell? ⟨(ad204.add ((x8_3).toNat * 4)).block, (ad204.add ((x8_3).toNat * 4)).off + 2, none⟩ = some (.int .i64 ((rd_T23 l0 x8_3).f2)) ∧ w'.cell? ⟨(ad204.add ((x8_3).toNat * 4)).block, (ad204.add ((x8_3).toNat * 4)).off + 3, none⟩ = some (.int .i64 ((rd_T23 l0 x8_3).f3))) (ds := []) (bl 14 0) (by kernel_rfl) rfl rfl ⟨(blk_cell bK1.out 0).trans rfl, (blk_cell bK1.out 1).trans rfl, (blk_cell bK1.out 2).trans rfl, (blk_cell bK1.out 3).trans rfl, ((HB.out.cell (World.block_lt_of_cell? w _ hw209_0)).trans hw209_0), ((HB.out.cell (World.block_lt_of_cell? w _ hw209_1)).trans hw209_1), ((HB.out.cell (World.block_lt_of_cell? w _ hw209_2)).trans hw209_2), ((HB.out.cell (World.block_lt_of_cell? w _ hw209_3)).trans hw209_3), ((HB.out.cell (World.block_lt_of_cell? w _ hw210_0)).trans hw210_0), ((HB.out.cell (World.block_lt_of_cell? w _ hw210_1)).trans hw210_1), ((HB.out.cell (World.block_lt_of_cell? w _ hw210_2)).trans hw210_2), ((HB.out.cell (World.block_lt_of_cell? w _ hw210_3)).trans hw210_3), ((HB.out.cell (World.block_lt_of_cell? w _ hw211_0)).trans hw211_0), ((HB.out.cell (World.block_lt_of_cell? w _ hw211_1)).trans hw211_1), ((HB.out.cell (World.block_lt_of_cell? w _ hw211_2)).trans hw211_2), ((HB.out.cell (World.block_lt_of_cell? w _ hw211_3)).trans hw211_3)⟩ (fun hHeld => ?_); refine with_tabW spec_l6With.tab15 spec_l6With.bits15 (fun HT_ HW_ => ?_)
                       generalize wr.drew = w33 at bK1 HB hx209_0 hx209_1 hx209_2 hx209_3 hx210_0 hx210_1 hx210_2 hx210_3 hx211_0 hx211_1 hx211_2 hx211_3 hHeld ⊢
                       refine pS 0 46 1 ?_
                       refine pS 1 47 3 ?_
                       refine pS 2 48 7 ?_
                       refine pS 4 50 23 ?_
                       refine pS 5 51 55 ?_
                       refine pS 6 52 119 ?_
                       refine pS 8 54 375 ?_
                       refine pS 9 55 887 ?_
                       refine pS 10 56 1911 ?_
                       refine tS 3 49 1919 ?_
                       refine tS 7 53 2047 ?_
                       refine tS 11 57 4095 ?_
                       refine tS 12 58 8191 ?_
                       refine oS 13 59 16383 (fun K hK => ?_)
                       refine gO Try.func163 #[.agg #[.int .i64 ((rd_T23 l0 x6_1).f0), .int .i64 ((rd_T23 l0 x6_1).f1), .int .i64 ((rd_T23 l0 x6_1).f2), .int .i64 ((rd_T23 l0 x6_1).f3)], .agg #[.int .i64 ((rd_T23 l0 x7_2).f0), .int .i64 ((rd_T23 l0 x7_2).f1), .int .i64 ((rd_T23 l0 x7_2).f2), .int .i64 ((rd_T23 l0 x7_2).f3)], .agg #[.int .i64 ((rd_T23 l0 x8_3).f0), .int .i64 ((rd_T23 l0 x8_3).f1), .int .i64 ((rd_T23 l0 x8_3).f2), .int .i64 ((rd_T23 l0 x8_3).f3)], .agg #[.int .i64 a1_0, .int .i64 a1_1, .int .i64 a1_2, .int .i64 a1_3]] ?_
                       with_reducible refine (spec_l6Clash4.calls k3 ((rd_T23 l0 x6_1).f0) ((rd_T23 l0 x6_1).f1) ((rd_T23 l0 x6_1).f2) ((rd_T23 l0 x6_1).f3) ((rd_T23 l0 x7_2).f0) ((rd_T23 l0 x7_2).f1) ((rd_T23 l0 x7_2).f2) ((rd_T23 l0 x7_2).f3) ((rd_T23 l0 x8_3).f0) ((rd_T23 l0 x8_3).f1) ((rd_T23 l0 x8_3).f2) ((rd_T23 l0 x8_3).f3) a1_0 a1_1 a1_2 a1_3 true _ A31.out).mono ?_
                       rintro e w34 ⟨rfl, hb⟩
                       refine ⟨_, rfl, ?_⟩
                       replace bK1 := kb bK1 hb
                       replace HB := bt HB hb
                       (try clear hb)
                       (try clear hb2)
                       (try clear hk)
                       (try clear hi)
                       refine hK.out _ _ ⟨(blk_cell bK1.out 0).trans rfl, (blk_cell bK1.out 1).trans rfl, (blk_cell bK1.out 2).trans rfl, (blk_cell bK1.out 3).trans rfl, ((HB.out.cell (World.block_lt_of_cell? w _ hw209_0)).trans hw209_0), ((HB.out.cell (World.block_lt_of_cell? w _ hw209_1)).trans hw209_1), ((HB.out.cell (World.block_lt_of_cell? w _ hw209_2)).trans hw209_2), ((HB.out.cell (World.block_lt_of_cell? w _ hw209_3)).trans hw209_3), ((HB.out.cell (World.block_lt_of_cell? w _ hw210_0)).trans hw210_0), ((HB.out.cell (World.block_lt_of_cell? w _ hw210_1)).trans hw210_1), ((HB.out.cell (World.block_lt_of_cell? w _ hw210_2)).trans hw210_2), ((HB.out.cell (World.block_lt_of_cell? w _ hw210_3)).trans hw210_3), ((HB.out.cell (World.block_lt_of_cell? w _ hw211_0)).trans hw211_0), ((HB.out.cell (World.block_lt_of_cell? w _ hw211_1)).trans hw211_1), ((HB.out.cell (World.block_lt_of_cell? w _ hw211_2)).trans hw211_2), ((HB.out.cell (World.block_lt_of_cell? w _ hw211_3)).trans hw211_3)⟩ (fun hHeld => ?_)
                       clear hK K
                       refine nm 59 ?_
                       refine done_ (done_of HT_.out (by kernel_rfl)) ?_
                       try go_wp2
                       go_ret
                       exact fin HB
                      replace c32 := Bool.eq_false_iff.mpr c32
                      subst c32
                      have H1 : (spec_l6With.l2 k3 l0 (l0.length : Int) x6_1 x7_2 (wrap64 (x8_3 + 1)) a1_0 a1_1 a1_2 a1_3) = some r := by rw [if_neg (show ¬ (false = true) by decide)] at H; exact H
                      clear H
                      have H := H1
                      clear H1
                      have H' := Aside0.mk H
                      clear H
                      try go_wp2
                      replace bK1 := Aside0.mk (blk_drew bK1.out)
                      replace HB := Aside0.mk (below_drew1 HB.out)
                      have p209 : 0 ≤ (x6_1 : Int) := dk
                      have q209 : x6_1 < (l0.length : Int) := dk
                      obtain ⟨ad209, e209, hx209_0, hx209_1, hx209_2, hx209_3⟩ := at_T23 HR0.out x6_1 p209 q209
                      have hw209_3 := hx209_3
                      have hw209_2 := hx209_2
                      have hw209_1 := hx209_1
                      have hw209_0 := hx209_0
                      obtain rfl : ad204 = ad209 := (by injection e209)
                      replace hx209_0 := hc HB hx209_0
                      replace hx209_1 := hc HB hx209_1
                      replace hx209_2 := hc HB hx209_2
                      replace hx209_3 := hc HB hx209_3
                      replace p209 := eq_true p209
                      replace q209 := eq_true q209
                      have p210 : 0 ≤ (x7_2 : Int) := dk
                      have q210 : x7_2 < (l0.length : Int) := dk
                      obtain ⟨ad210, e210, hx210_0, hx210_1, hx210_2, hx210_3⟩ := at_T23 HR0.out x7_2 p210 q210
                      have hw210_3 := hx210_3
                      have hw210_2 := hx210_2
                      have hw210_1 := hx210_1
                      have hw210_0 := hx210_0
                      obtain rfl : ad204 = ad210 := (by injection e210)
                      replace hx210_0 := hc HB hx210_0
                      replace hx210_1 := hc HB hx210_1
                      replace hx210_2 := hc HB hx210_2
                      replace hx210_3 := hc HB hx210_3
                      replace p210 := eq_true p210
                      replace q210 := eq_true q210
                      have p211 : 0 ≤ (x8_3 : Int) := dk
                      have q211 : x8_3 < (l0.length : Int) := dk
                      obtain ⟨ad211, e211, hx211_0, hx211_1, hx211_2, hx211_3⟩ := at_T23 HR0.out x8_3 p211 q211
                      have hw211_3 := hx211_3
                      have hw211_2 := hx211_2
                      have hw211_1 := hx211_1
                      have hw211_0 := hx211_0
                      obtain rfl : ad204 = ad211 := (by injection e211)
                      replace hx211_0 := hc HB hx211_0
                      replace hx211_1 := hc HB hx211_1
                      replace hx211_2 := hc HB hx211_2
                      replace hx211_3 := hc HB hx211_3
                      replace p211 := eq_true p211
                      replace q211 := eq_true q211
                      refine start_ (n := 14) (S := fun w' => w'.cell? ⟨g1, 0, none⟩ = some (.int .i64 a1_0) ∧ w'.cell? ⟨g1, 1, none⟩ = some (.int .i64 a1_1) ∧ w'.cell? ⟨g1, 2, none⟩ = some (.int .i64 a1_2) ∧ w'.cell? ⟨g1, 3, none⟩ = some (.int .i64 a1_3) ∧ w'.cell? (ad204.add ((x6_1).toNat * 4)) = some (.int .i64 ((rd_T23 l0 x6_1).f0)) ∧ w'.cell? ⟨(ad204.add ((x6_1).toNat * 4)).block, (ad204.add ((x6_1).toNat * 4)).off + 1, none⟩ = some (.int .i64 ((rd_T23 l0 x6_1).f1)) ∧ w'.cell? ⟨(ad204.add ((x6_1).toNat * 4)).block, (ad204.add ((x6_1).toNat * 4)).off + 2, none⟩ = some (.int .i64 ((rd_T23 l0 x6_1).f2)) ∧ w'.cell? ⟨(ad204.add ((x6_1).toNat * 4)).block, (ad204.add ((x6_1).toNat * 4)).off + 3, none⟩ = some (.int .i64 ((rd_T23 l0 x6_1).f3)) ∧ w'.cell? (ad204.add ((x7_2).toNat * 4)) = some (.int .i64 ((rd_T23 l0 x7_2).f0)) ∧ w'.cell? ⟨(ad204.add ((x7_2).toNat * 4)).block, (ad204.add ((x7_2).toNat * 4)).off + 1, none⟩ = some (.int .i64 ((rd_T23 l0 x7_2).f1)) ∧ w'.cell? ⟨(ad204.add ((x7_2).toNat * 4)).block, (ad204.add ((x7_2).toNat * 4)).off + 2, none⟩ = some (.int .i64 ((rd_T23 l0 x7_2).f2)) ∧ w'.cell? ⟨(ad204.add ((x7_2).toNat * 4)).block, (ad204.add ((x7_2).toNat * 4)).off + 3, none⟩ = some (.int .i64 ((rd_T23 l0 x7_2).f3)) ∧ w'.cell? (ad204.add ((x8_3).toNat * 4)) = some (.int .i64 ((rd_T23 l0 x8_3).f0)) ∧ w'.cell? ⟨(ad204.add ((x8_3).toNat * 4)).block, (ad204.add ((x8_3).toNat * 4)).off + 1, none⟩ = some (.int .i64 ((rd_T23 l0 x8_3).f1)) ∧ w'.cell? ⟨(ad204.add ((x8_3).toNat * 4)).block, (ad204.add ((x8_3).toNat * 4)).off + 2, none⟩ = some (.int .i64 ((rd_T23 l0 x8_3).f2)) ∧ w'.cell? ⟨(ad204.add ((x8_3).toNat * 4)).block, (ad204.add ((x8_3).toNat * 4)).off + 3, none⟩ = some (.int .i64 ((rd_T23 l0 x8_3).f3))) (ds := []) (bl 14 0) (by kernel_rfl) rfl rfl ⟨(blk_cell bK1.out 0).trans rfl, (blk_cell bK1.out 1).trans rfl, (blk_cell bK1.out 2).trans rfl, (blk_cell bK1.out 3).trans rfl, ((HB.out.cell (World.block_lt_of_cell? w _ hw209_0)).trans hw209_0), ((HB.out.cell (World.block_lt_of_cell? w _ hw209_1)).trans hw209_1), ((HB.out.cell (World.block_lt_of_cell? w _ hw209_2)).trans hw209_2), ((HB.out.cell (World.block_lt_of_cell? w _ hw209_3)).trans hw209_3), ((HB.out.cell (World.block_lt_of_cell? w _ hw210_0)).trans hw210_0), ((HB.out.cell (World.block_lt_of_cell? w _ hw210_1)).trans hw210_1), ((HB.out.cell (World.block_lt_of_cell? w _ hw210_2)).trans hw210_2), ((HB.out.cell (World.block_lt_of_cell? w _ hw210_3)).trans hw210_3), ((HB.out.cell (World.block_lt_of_cell? w _ hw211_0)).trans hw211_0), ((HB.out.cell (World.block_lt_of_cell? w _ hw211_1)).trans hw211_1), ((HB.out.cell (World.block_lt_of_cell? w _ hw211_2)).trans hw211_2), ((HB.out.cell (World.block_lt_of_cell? w _ hw211_3)).trans hw211_3)⟩ (fun hHeld => ?_); refine with_tabW spec_l6With.tab15 spec_l6With.bits15 (fun HT_ HW_ => ?_)
                      generalize wr.drew = w35 at bK1 HB hx209_0 hx209_1 hx209_2 hx209_3 hx210_0 hx210_1 hx210_2 hx210_3 hx211_0 hx211_1 hx211_2 hx211_3 hHeld ⊢
                      refine pS 0 46 1 ?_
                      refine pS 1 47 3 ?_
                      refine pS 2 48 7 ?_
                      refine pS 4 50 23 ?_
                      refine pS 5 51 55 ?_
                      refine pS 6 52 119 ?_
                      refine pS 8 54 375 ?_
                      refine pS 9 55 887 ?_
                      refine pS 10 56 1911 ?_
                      refine tS 3 49 1919 ?_
                      refine tS 7 53 2047 ?_
                      refine tS 11 57 4095 ?_
                      refine tS 12 58 8191 ?_
                      refine oS 13 59 16383 (fun K hK => ?_)
                      refine gO Try.func163 #[.agg #[.int .i64 ((rd_T23 l0 x6_1).f0), .int .i64 ((rd_T23 l0 x6_1).f1), .int .i64 ((rd_T23 l0 x6_1).f2), .int .i64 ((rd_T23 l0 x6_1).f3)], .agg #[.int .i64 ((rd_T23 l0 x7_2).f0), .int .i64 ((rd_T23 l0 x7_2).f1), .int .i64 ((rd_T23 l0 x7_2).f2), .int .i64 ((rd_T23 l0 x7_2).f3)], .agg #[.int .i64 ((rd_T23 l0 x8_3).f0), .int .i64 ((rd_T23 l0 x8_3).f1), .int .i64 ((rd_T23 l0 x8_3).f2), .int .i64 ((rd_T23 l0 x8_3).f3)], .agg #[.int .i64 a1_0, .int .i64 a1_1, .int .i64 a1_2, .int .i64 a1_3]] ?_
                      with_reducible refine (spec_l6Clash4.calls k3 ((rd_T23 l0 x6_1).f0) ((rd_T23 l0 x6_1).f1) ((rd_T23 l0 x6_1).f2) ((rd_T23 l0 x6_1).f3) ((rd_T23 l0 x7_2).f0) ((rd_T23 l0 x7_2).f1) ((rd_T23 l0 x7_2).f2) ((rd_T23 l0 x7_2).f3) ((rd_T23 l0 x8_3).f0) ((rd_T23 l0 x8_3).f1) ((rd_T23 l0 x8_3).f2) ((rd_T23 l0 x8_3).f3) a1_0 a1_1 a1_2 a1_3 false _ A31.out).mono ?_
                      rintro e w36 ⟨rfl, hb⟩
                      refine ⟨_, rfl, ?_⟩
                      replace bK1 := kb bK1 hb
                      replace HB := bt HB hb
                      (try clear hb)
                      (try clear hb2)
                      (try clear hk)
                      (try clear hi)
                      refine hK.out _ _ ⟨(blk_cell bK1.out 0).trans rfl, (blk_cell bK1.out 1).trans rfl, (blk_cell bK1.out 2).trans rfl, (blk_cell bK1.out 3).trans rfl, ((HB.out.cell (World.block_lt_of_cell? w _ hw209_0)).trans hw209_0), ((HB.out.cell (World.block_lt_of_cell? w _ hw209_1)).trans hw209_1), ((HB.out.cell (World.block_lt_of_cell? w _ hw209_2)).trans hw209_2), ((HB.out.cell (World.block_lt_of_cell? w _ hw209_3)).trans hw209_3), ((HB.out.cell (World.block_lt_of_cell? w _ hw210_0)).trans hw210_0), ((HB.out.cell (World.block_lt_of_cell? w _ hw210_1)).trans hw210_1), ((HB.out.cell (World.block_lt_of_cell? w _ hw210_2)).trans hw210_2), ((HB.out.cell (World.block_lt_of_cell? w _ hw210_3)).trans hw210_3), ((HB.out.cell (World.block_lt_of_cell? w _ hw211_0)).trans hw211_0), ((HB.out.cell (World.block_lt_of_cell? w _ hw211_1)).trans hw211_1), ((HB.out.cell (World.block_lt_of_cell? w _ hw211_2)).trans hw211_2), ((HB.out.cell (World.block_lt_of_cell? w _ hw211_3)).trans hw211_3)⟩ (fun hHeld => ?_)
                      clear hK K
                      refine nm 59 ?_
                      refine done_ (done_of HT_.out (by kernel_rfl)) ?_
                      try go_wp2
                      go_roundg k3
                      case measure => have := HK1.out; have := HK2.out; have := HK3.out; omega
                      case rel => exact ⟨(wrap64 (x8_3 + 1)), re, H', ⟨by have := HK1.out; have := HK2.out; have := HK3.out; omega⟩, ⟨by (with_reducible repeat (first | refine blk_drewN ?_ _ | refine blk_drew ?_ | refine blk_alloc ?_ _)); exact bK1.out⟩, ⟨by repeat (first | (with_reducible first | exact HB.out | apply below_alloc | apply pw_below_drewN | apply below_drew1 | refine below_set ?_ bE1.out) | exact HB.out)⟩⟩
                     rw [if_neg c30] at H
                     exact absurd H (by simp)
                    rw [if_neg c29] at H
                    exact absurd H (by simp)
                   rw [if_neg c28] at H
                   exact absurd H (by simp)
                  rw [if_neg c27] at H
                  exact absurd H (by simp)
                 rw [if_neg c26] at H
                 exact absurd H (by simp)
                rw [if_neg c25] at H
                exact absurd H (by simp)
               rw [if_neg c24] at H
               have c24b0 : decide (x8_3 < (l0.length : Int)) = false := decide_eq_false c24
               clear c24
               have H' := Aside0.mk H
               clear H
               go_wp2
               go_roundg k3
               case measure => have := HK1.out; have := HK2.out; have := HK3.out; omega
               case rel => exact ⟨(wrap64 (x7_2 + 1)), re, H', ⟨by have := HK1.out; have := HK2.out; have := HK3.out; omega⟩, ⟨by (with_reducible repeat (first | refine blk_drewN ?_ _ | refine blk_drew ?_ | refine blk_alloc ?_ _)); exact bK1.out⟩, ⟨by repeat (first | (with_reducible first | exact HB.out | apply below_alloc | apply pw_below_drewN | apply below_drew1 | refine below_set ?_ bE1.out) | exact HB.out)⟩⟩
            rw [if_neg c17] at H
            exact absurd H (by simp)
           rw [if_neg c16] at H
           exact absurd H (by simp)
          rw [if_neg c15] at H
          exact absurd H (by simp)
         rw [if_neg c14] at H
         exact absurd H (by simp)
        rw [if_neg c13] at H
        have c13b0 : decide (x7_2 < (l0.length : Int)) = false := decide_eq_false c13
        clear c13
        have H' := Aside0.mk H
        clear H
        go_wp2
        go_roundg k2
        case measure => have := HK1.out; have := HK2.out; omega
        case rel => exact ⟨(wrap64 (x6_1 + 1)), re, H', ⟨by have := HK1.out; have := HK2.out; omega⟩, ⟨by (with_reducible repeat (first | refine blk_drewN ?_ _ | refine blk_drew ?_ | refine blk_alloc ?_ _)); exact bK1.out⟩, ⟨by repeat (first | (with_reducible first | exact HB.out | apply below_alloc | apply pw_below_drewN | apply below_drew1 | refine below_set ?_ bE1.out) | exact HB.out)⟩⟩
     rw [if_neg c6] at H
     exact absurd H (by simp)
    rw [if_neg c5] at H
    exact absurd H (by simp)
   rw [if_neg c4] at H
   have c4b0 : decide (x6_1 < (l0.length : Int)) = false := decide_eq_false c4
   clear c4
   obtain rfl := Option.some.inj H
   go_wp2
   go_ret
   exact fin HB

end Go.Proofs.Ytndedincanmaeaa.Print
