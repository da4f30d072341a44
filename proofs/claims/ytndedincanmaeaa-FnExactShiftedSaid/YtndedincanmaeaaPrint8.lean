-- Printed by a program of the session (mkprinter.py, over the kit's print); Lean checks it.
import Derived.Test.YtndedincanmaeaaCp
import Derived.Test.YtndedincanmaeaaPrint0
import Derived.Test.YtndedincanmaeaaPrint1
import Derived.Test.YtndedincanmaeaaPrint3
import Derived.Test.YtndedincanmaeaaPrint5
import Derived.Test.YtndedincanmaeaaPrint6
import Derived.Test.YtndedincanmaeaaPrint7
namespace Go.Proofs.Ytndedincanmaeaa.Print
open Go.RowKit Go.Proofs.YtndedincanmaeaaW.PrintWords Go.Proofs.YtndedincanmaeaaW.PrintLast Go.Proofs.YtndedincanmaeaaW.PrintMore Go.Proofs.Ytndedincanmaeaa.Cp
set_option linter.unusedVariables false
set_option linter.unusedSimpArgs false

/-! ### spec_Primitive: function 90 -/
mutual
def spec_Primitive.j0 : Nat → Int → Int → Int → Int → Bool → Option (Int × Int × Int × Int × Int)
 | 0, _, _, _, _, _ => none
 | k + 1, x0, x1, x2, x3, x27 => if x27 = true then (some (0, 0, 0, 0, 1)) else ((spec_Of.f k x0).bind fun bt268 => ((spec_Of.f k x1).bind fun bt272 => ((spec_Of.f k x2).bind fun bt276 => ((spec_Of.f k x3).bind fun bt280 => ((some (([(⟨bt268.1, bt268.2⟩ : S116), (⟨bt272.1, bt272.2⟩ : S116), (⟨bt276.1, bt276.2⟩ : S116), (⟨bt280.1, bt280.2⟩ : S116)] : List (S116)) : List (S116))).bind fun y284 => ((spec_l3NumGcd.f k y284).bind fun bt287 => (spec_Primitive.l0 k y284 (([] : List Int)) 0 bt287.1 bt287.2)))))))
def spec_Primitive.l0 : Nat → List (S116) → List Int → Int → Bool → List Int → Option (Int × Int × Int × Int × Int)
 | 0, _, _, _, _, _ => none
 | k + 1, x10, x12, x13, x292000, x292001 => if x13 < 4 then (if 0 ≤ x13 then (if x13 < (x10.length : Int) then ((spec_l1DivMag.f k ((rd_T116 x10 x13).f1) x292001).bind fun bt300 => ((spec_l1Num.f k ((rd_T116 x10 x13).f0) bt300.1).bind fun bt307 => ((spec_Small.f k bt307.1 bt307.2).bind fun bt311 => (if bt311.2 = true then ((spec_l1In.f bt311.1 (-500) 500).bind fun t313 => (spec_Primitive.j2 k x10 x12 x13 bt311.1 (!t313) x292000 x292001)) else (spec_Primitive.j2 k x10 x12 x13 bt311.1 true x292000 x292001))))) else (none)) else (none)) else (if 0 < (x12.length : Int) then (if 1 < (x12.length : Int) then (if 2 < (x12.length : Int) then (if 3 < (x12.length : Int) then (some (rd x12 0, rd x12 1, rd x12 2, rd x12 3, 0)) else (none)) else (none)) else (none)) else (none))
def spec_Primitive.j2 : Nat → List (S116) → List Int → Int → Int → Bool → Bool → List Int → Option (Int × Int × Int × Int × Int)
 | 0, _, _, _, _, _, _, _ => none
 | k + 1, x10, x12, x13, x16, x73, x292000, x292001 => if x73 = true then (some (0, 0, 0, 0, 2)) else (if x12.length < 17592186044416 then (spec_Primitive.l0 k x10 (x12 ++ [x16]) (wrap64 (x13 + 1)) x292000 x292001) else (none))
end
def spec_Primitive.f (k : Nat) (a0 : Int) (a1 : Int) (a2 : Int) (a3 : Int) : Option (Int × Int × Int × Int × Int) := if a0 = 0 then (if a1 = 0 then (spec_Primitive.j0 k a0 a1 a2 a3 (a2 == 0)) else (spec_Primitive.j0 k a0 a1 a2 a3 false)) else (spec_Primitive.j0 k a0 a1 a2 a3 false)
theorem spec_Primitive.mono_l : ∀ k, (∀ y0 y1 y2 y3 y4, LeO (spec_Primitive.j0 k y0 y1 y2 y3 y4) (spec_Primitive.j0 (k + 1) y0 y1 y2 y3 y4)) ∧ (∀ y0 y1 y2 y3 y4, LeO (spec_Primitive.l0 k y0 y1 y2 y3 y4) (spec_Primitive.l0 (k + 1) y0 y1 y2 y3 y4)) ∧ (∀ y0 y1 y2 y3 y4 y5 y6, LeO (spec_Primitive.j2 k y0 y1 y2 y3 y4 y5 y6) (spec_Primitive.j2 (k + 1) y0 y1 y2 y3 y4 y5 y6))
 | 0 => ⟨fun _ _ _ _ _ r h => by simp [spec_Primitive.j0] at h, fun _ _ _ _ _ r h => by simp [spec_Primitive.l0] at h, fun _ _ _ _ _ _ _ r h => by simp [spec_Primitive.j2] at h⟩
 | k + 1 => by
  obtain ⟨ih0, ih1, ih2⟩ := spec_Primitive.mono_l k
  refine ⟨?_, ?_, ?_⟩
  ·intro y0 y1 y2 y3 y4
   unfold spec_Primitive.j0
   repeat' first
   | (with_reducible exact ih0 _ _ _ _ _)
   | (with_reducible exact ih1 _ _ _ _ _)
   | (with_reducible exact ih2 _ _ _ _ _ _ _)
   | (with_reducible exact spec_Of.mono _ _)
   | (with_reducible exact spec_Small.mono _ _ _)
   | (with_reducible exact spec_l1DivMag.mono _ _ _)
   | (with_reducible exact spec_l1Num.mono _ _ _)
   | (with_reducible exact spec_l3NumGcd.mono _ _)
   | (with_reducible exact LeO.refl _)
   | (with_reducible exact LeO.none _)
   | (with_reducible refine LeO.ite ?_ ?_)
   | (with_reducible refine LeO.bind ?_ (fun _ => ?_))
   | exact ih0 _ _ _ _ _
   | exact ih1 _ _ _ _ _
   | exact ih2 _ _ _ _ _ _ _
   | exact spec_Of.mono _ _
   | exact spec_Small.mono _ _ _
   | exact spec_l1DivMag.mono _ _ _
   | exact spec_l1Num.mono _ _ _
   | exact spec_l3NumGcd.mono _ _
   | exact LeO.none _
   | refine LeO.ite ?_ ?_
   | refine LeO.bind ?_ (fun _ => ?_)
  ·intro y0 y1 y2 y3 y4
   unfold spec_Primitive.l0
   repeat' first
   | (with_reducible exact ih0 _ _ _ _ _)
   | (with_reducible exact ih1 _ _ _ _ _)
   | (with_reducible exact ih2 _ _ _ _ _ _ _)
   | (with_reducible exact spec_Of.mono _ _)
   | (with_reducible exact spec_Small.mono _ _ _)
   | (with_reducible exact spec_l1DivMag.mono _ _ _)
   | (with_reducible exact spec_l1Num.mono _ _ _)
   | (with_reducible exact spec_l3NumGcd.mono _ _)
   | (with_reducible exact LeO.refl _)
   | (with_reducible exact LeO.none _)
   | (with_reducible refine LeO.ite ?_ ?_)
   | (with_reducible refine LeO.bind ?_ (fun _ => ?_))
   | exact ih0 _ _ _ _ _
   | exact ih1 _ _ _ _ _
   | exact ih2 _ _ _ _ _ _ _
   | exact spec_Of.mono _ _
   | exact spec_Small.mono _ _ _
   | exact spec_l1DivMag.mono _ _ _
   | exact spec_l1Num.mono _ _ _
   | exact spec_l3NumGcd.mono _ _
   | exact LeO.none _
   | refine LeO.ite ?_ ?_
   | refine LeO.bind ?_ (fun _ => ?_)
  intro y0 y1 y2 y3 y4 y5 y6
  unfold spec_Primitive.j2
  repeat' first
  | (with_reducible exact ih0 _ _ _ _ _)
  | (with_reducible exact ih1 _ _ _ _ _)
  | (with_reducible exact ih2 _ _ _ _ _ _ _)
  | (with_reducible exact spec_Of.mono _ _)
  | (with_reducible exact spec_Small.mono _ _ _)
  | (with_reducible exact spec_l1DivMag.mono _ _ _)
  | (with_reducible exact spec_l1Num.mono _ _ _)
  | (with_reducible exact spec_l3NumGcd.mono _ _)
  | (with_reducible exact LeO.refl _)
  | (with_reducible exact LeO.none _)
  | (with_reducible refine LeO.ite ?_ ?_)
  | (with_reducible refine LeO.bind ?_ (fun _ => ?_))
  | exact ih0 _ _ _ _ _
  | exact ih1 _ _ _ _ _
  | exact ih2 _ _ _ _ _ _ _
  | exact spec_Of.mono _ _
  | exact spec_Small.mono _ _ _
  | exact spec_l1DivMag.mono _ _ _
  | exact spec_l1Num.mono _ _ _
  | exact spec_l3NumGcd.mono _ _
  | exact LeO.none _
  | refine LeO.ite ?_ ?_
  | refine LeO.bind ?_ (fun _ => ?_)
theorem spec_Primitive.mono : ∀ a0 a1 a2 a3 k, LeO (spec_Primitive.f k a0 a1 a2 a3) (spec_Primitive.f (k + 1) a0 a1 a2 a3) := by
 intro a0 a1 a2 a3 k
 obtain ⟨ih0, ih1, ih2⟩ := spec_Primitive.mono_l k
 unfold spec_Primitive.f
 repeat' first
   | (with_reducible exact ih0 _ _ _ _ _)
   | (with_reducible exact ih1 _ _ _ _ _)
   | (with_reducible exact ih2 _ _ _ _ _ _ _)
   | (with_reducible exact spec_Of.mono _ _)
   | (with_reducible exact spec_Small.mono _ _ _)
   | (with_reducible exact spec_l1DivMag.mono _ _ _)
   | (with_reducible exact spec_l1Num.mono _ _ _)
   | (with_reducible exact spec_l3NumGcd.mono _ _)
   | (with_reducible exact LeO.refl _)
   | (with_reducible exact LeO.none _)
   | (with_reducible refine LeO.ite ?_ ?_)
   | (with_reducible refine LeO.bind ?_ (fun _ => ?_))
   | exact ih0 _ _ _ _ _
   | exact ih1 _ _ _ _ _
   | exact ih2 _ _ _ _ _ _ _
   | exact spec_Of.mono _ _
   | exact spec_Small.mono _ _ _
   | exact spec_l1DivMag.mono _ _ _
   | exact spec_l1Num.mono _ _ _
   | exact spec_l3NumGcd.mono _ _
   | exact LeO.none _
   | refine LeO.ite ?_ ?_
   | refine LeO.bind ?_ (fun _ => ?_)
def spec_Primitive.T9 : Bool × List (List Nat × List Nat) := (true, [([], []), ([], []), ([0, 1], [0, 1]), ([2], [2]), ([3], [3]), ([], []), ([5], [5]), ([4, 6], [4, 6]), ([7], [7]), ([8], [8]), ([8], [8]), ([9, 7, 0, 1, 2, 3, 4, 5, 6, 7, 8, 9], [9]), ([10, 11, 0, 1, 2, 3, 4, 5, 6, 7, 8, 9, 10, 11], [10])])
def spec_Primitive.B9 : List Nat := [0, 0, 3, 7, 15, 0, 32, 127, 255, 511, 511, 1023, 4095]
theorem spec_Primitive.tab9 : rtab .any (opsOf Try.f90 9) = spec_Primitive.T9 := by kernel_rfl
theorem spec_Primitive.bits9 : waitsOk spec_Primitive.T9.2 spec_Primitive.B9 = true := by kernel_rfl
def spec_Primitive.T14 : Bool × List (List Nat × List Nat) := (true, [([], []), ([0], [0]), ([1], [1]), ([], []), ([3], [3]), ([4], [4]), ([], []), ([6], [6]), ([7], [7]), ([], []), ([9], [9]), ([10], [10]), ([2, 5, 8, 11], [2, 5, 8, 11]), ([12, 0, 1, 2, 3, 4, 5, 6, 7, 8, 9, 10, 11, 12], [12]), ([13, 0, 1, 2, 3, 4, 5, 6, 7, 8, 9, 10, 11, 12, 13], [])])
def spec_Primitive.B14 : List Nat := [0, 1, 3, 0, 8, 24, 0, 64, 192, 0, 512, 1536, 4095, 8191, 16383]
theorem spec_Primitive.tab14 : rtab .any (opsOf Try.f90 14) = spec_Primitive.T14 := by kernel_rfl
theorem spec_Primitive.bits14 : waitsOk spec_Primitive.T14.2 spec_Primitive.B14 = true := by kernel_rfl
set_option maxHeartbeats 8000000 in
set_option maxRecDepth 100000 in
theorem spec_Primitive.calls (k : Nat) (a0 : Int) (a1 : Int) (a2 : Int) (a3 : Int) (r1 : Int) (r2 : Int) (r3 : Int) (r4 : Int) (r5 : Int) (w : World) (h : spec_Primitive.f k a0 a1 a2 a3 = some (r1, r2, r3, r4, r5)) :
  Calls Try.prog 90 #[.int .i64 a0, .int .i64 a1, .int .i64 a2, .int .i64 a3] w fun e w' => e = .returned (.tuple #[.agg #[.int .i64 r1, .int .i64 r2, .int .i64 r3, .int .i64 r4], .int .i64 r5]) ∧ Below w.heap.size w w' := by
 have hu23 := Try.underlying23
 have hu116 := Try.underlying116
 have HB := Aside0.mk (Below.refl w.heap.size w)
 have H : (if a0 = 0 then (if a1 = 0 then (spec_Primitive.j0 k a0 a1 a2 a3 (a2 == 0)) else (spec_Primitive.j0 k a0 a1 a2 a3 false)) else (spec_Primitive.j0 k a0 a1 a2 a3 false)) = some (r1, r2, r3, r4, r5) := h
 clear h
 have HC5 := Aside0.mk H
 clear H
 go_enter Try.func90, Try.ntmps90
 go_upto_region 1 with (first | ((with_reducible refine gate_dst (N := 8) rfl ?_); refine box_event ?hg (N := 8) ?hd (cs := #[.int .i64 0, .int .i64 0, .int .i64 0, .int .i64 0]) (t := 23) ?hr ?_; (case hd => rfl); (case hg => rfl); (case hr => first | (go_simp; done) | (go_simp; rfl)); intro g1 hg w6 hbox hb; have bK1 := Aside0.mk (hbox); have bW1 := gx hg HB; have bE1 := gx hg HB; replace HB := bt HB hb; clear hb hbox hg))
 (try simp only [Act.put, List.setIfInBounds_toArray, List.set_cons_zero, List.set_cons_succ])
 go_cut [27] (fun v27 wc => ∃ (kq : Nat) (x27_4 : Bool), v27 = .bool x27_4 ∧ Aside0 (spec_Primitive.j0 kq a0 a1 a2 a3 x27_4 = some (r1, r2, r3, r4, r5)) ∧ Aside0 (kq ≤ k) ∧ Aside0 (wc.heap[g1]? = some (.cells #[.int .i64 0, .int .i64 0, .int .i64 0, .int .i64 0] 23 (0, 0))) ∧ Aside0 (Below w.heap.size w wc))
 case first =>
  have H := HC5.out
  clear HC5
  by_cases c7 : a0 = 0
  ·rw [if_pos c7] at H
   have c7b0 : (a0 == 0) = true := beq_iff_eq.mpr c7
   have c7b1 : (a0 != 0) = false := bne_eq_false_iff_eq.mpr c7
   clear c7
   (first | rw [c7b0] | (simp only [i64_w, i32_w]; rw [c7b0]) | skip)
   by_cases c8 : a1 = 0
   ·rw [if_pos c8] at H
    have c8b0 : (a1 == 0) = true := beq_iff_eq.mpr c8
    have c8b1 : (a1 != 0) = false := bne_eq_false_iff_eq.mpr c8
    clear c8
    have H' := Aside0.mk H
    clear H
    go_wp2
    go_meet
    case rel => exact ⟨_, ((a2 == 0)), re, H', ⟨by first | omega | exact Nat.le_refl _⟩, ⟨by (with_reducible repeat (first | refine blk_drewN ?_ _ | refine blk_drew ?_ | refine blk_alloc ?_ _)); exact bK1.out⟩, ⟨by repeat (first | (with_reducible first | exact HB.out | apply below_alloc | apply pw_below_drewN | apply below_drew1 | refine below_set ?_ bE1.out) | exact HB.out)⟩⟩
   rw [if_neg c8] at H
   have c8b0 : (a1 == 0) = false := beq_eq_false_iff_ne.mpr c8
   have c8b1 : (a1 != 0) = true := bne_iff_ne.mpr c8
   have H' := Aside0.mk H
   clear H
   go_wp2
   go_meet
   case rel => exact ⟨_, (false), re, H', ⟨by first | omega | exact Nat.le_refl _⟩, ⟨by (with_reducible repeat (first | refine blk_drewN ?_ _ | refine blk_drew ?_ | refine blk_alloc ?_ _)); exact bK1.out⟩, ⟨by repeat (first | (with_reducible first | exact HB.out | apply below_alloc | apply pw_below_drewN | apply below_drew1 | refine below_set ?_ bE1.out) | exact HB.out)⟩⟩
  rw [if_neg c7] at H
  have c7b0 : (a0 == 0) = false := beq_eq_false_iff_ne.mpr c7
  have c7b1 : (a0 != 0) = true := bne_iff_ne.mpr c7
  (first | rw [c7b0] | (simp only [i64_w, i32_w]; rw [c7b0]) | skip)
  have H' := Aside0.mk H
  clear H
  go_wp2
  go_meet
  case rel => exact ⟨_, (false), re, H', ⟨by first | omega | exact Nat.le_refl _⟩, ⟨by (with_reducible repeat (first | refine blk_drewN ?_ _ | refine blk_drew ?_ | refine blk_alloc ?_ _)); exact bK1.out⟩, ⟨by repeat (first | (with_reducible first | exact HB.out | apply below_alloc | apply pw_below_drewN | apply below_drew1 | refine below_set ?_ bE1.out) | exact HB.out)⟩⟩
 case rest =>
  clear HC5
  try clear p2
  try clear p6
  try clear c7
  try clear c7b0
  try clear c7b1
  try clear c8
  try clear c8b0
  try clear c8b1
  obtain ⟨kq, x27_4, rfl, HA, HJ4, bK1, HB⟩ := hcut
  cases kq with
  | zero => exact absurd HA.out (by simp [spec_Primitive.j0])
  | succ kj4 =>
   have H := HA.out
   clear HA
   simp only [spec_Primitive.j0] at H
   by_cases c9 : x27_4 = true
   ·subst c9
    have H1 : (some (0, 0, 0, 0, 1)) = some (r1, r2, r3, r4, r5) := by rw [if_pos rfl] at H; exact H
    clear H
    have H := H1
    clear H1
    simp only [Option.some.injEq, Prod.mk.injEq] at H
    obtain ⟨rfl, rfl, rfl, rfl, rfl⟩ := H
    obtain ⟨hcz10_0, hcz10_1, hcz10_2, hcz10_3, hfz10_0, hfz10_1, hfz10_2, hfz10_3⟩ := cz4 bK1
    go_wp2
    refine bodyPost_ret (results_ct rfl _ _ g1 23 #[.int .i64 0, .int .i64 0, .int .i64 0, .int .i64 0] (0, 0) _ rfl (by (with_reducible repeat (first | refine blk_drewN ?_ _ | refine blk_drew ?_ | refine blk_alloc ?_ _)); refine blk_put (cs := #[.int .i64 0, .int .i64 0, .int .i64 0, .int .i64 0]) ?_ 3 _ rfl; (with_reducible repeat (first | refine blk_drewN ?_ _ | refine blk_drew ?_ | refine blk_alloc ?_ _)); refine blk_put (cs := #[.int .i64 0, .int .i64 0, .int .i64 0, .int .i64 0]) ?_ 2 _ rfl; (with_reducible repeat (first | refine blk_drewN ?_ _ | refine blk_drew ?_ | refine blk_alloc ?_ _)); refine blk_put (cs := #[.int .i64 0, .int .i64 0, .int .i64 0, .int .i64 0]) ?_ 1 _ rfl; (with_reducible repeat (first | refine blk_drewN ?_ _ | refine blk_drew ?_ | refine blk_alloc ?_ _)); refine blk_put (cs := #[.int .i64 0, .int .i64 0, .int .i64 0, .int .i64 0]) ?_ 0 _ rfl; (with_reducible repeat (first | refine blk_drewN ?_ _ | refine blk_drew ?_ | refine blk_alloc ?_ _)); exact bK1.out) Try.underlying23 rfl (by kernel_rfl)) rfl ?_
    exact fin HB
   replace c9 := Bool.eq_false_iff.mpr c9
   subst c9
   have H1 : ((spec_Of.f kj4 a0).bind fun bt268 => ((spec_Of.f kj4 a1).bind fun bt272 => ((spec_Of.f kj4 a2).bind fun bt276 => ((spec_Of.f kj4 a3).bind fun bt280 => ((some (([(⟨bt268.1, bt268.2⟩ : S116), (⟨bt272.1, bt272.2⟩ : S116), (⟨bt276.1, bt276.2⟩ : S116), (⟨bt280.1, bt280.2⟩ : S116)] : List (S116)) : List (S116))).bind fun y284 => ((spec_l3NumGcd.f kj4 y284).bind fun bt287 => (spec_Primitive.l0 kj4 y284 (([] : List Int)) 0 bt287.1 bt287.2))))))) = some (r1, r2, r3, r4, r5) := by rw [if_neg (show ¬ (false = true) by decide)] at H; exact H
   clear H
   have H := H1
   clear H1
   obtain ⟨⟨t268, t269⟩, A11, H⟩ := bi H
   dsimp only at H
   obtain ⟨⟨t272, t273⟩, A12, H⟩ := bi H
   dsimp only at H
   obtain ⟨⟨t276, t277⟩, A13, H⟩ := bi H
   dsimp only at H
   obtain ⟨⟨t280, t281⟩, A14, H⟩ := bi H
   dsimp only at H
   obtain ⟨y284, hy284⟩ : ∃ y_ : List (S116), y_ = (([(⟨t268, t269⟩ : S116), (⟨t272, t273⟩ : S116), (⟨t276, t277⟩ : S116), (⟨t280, t281⟩ : S116)] : List (S116))) := ⟨_, rfl⟩
   replace H : ((spec_l3NumGcd.f kj4 y284).bind fun bt287 => (spec_Primitive.l0 kj4 y284 (([] : List Int)) 0 bt287.1 bt287.2)) = some (r1, r2, r3, r4, r5) := by first | (rw [hy284]; with_reducible exact H) | (have H2_ := (Option.bind_some _ _).symm.trans H; rw [hy284]; with_reducible exact H2_) | (have H2_ := (Option.bind_some _ _).symm.trans H; with_reducible exact H2_) | with_reducible exact H | (rw [hy284]; exact H) | exact H
   have Ny284 := Aside0.mk hy284
   clear hy284
   obtain ⟨⟨t287, t288⟩, A15, H⟩ := bi H
   dsimp only at H
   obtain ⟨y292, hy292⟩ : ∃ y_ : List Int, y_ = (([] : List Int)) := ⟨_, rfl⟩
   replace H : (spec_Primitive.l0 kj4 y284 y292 0 t287 t288) = some (r1, r2, r3, r4, r5) := by first | (rw [hy292]; with_reducible exact H) | (have H2_ := (Option.bind_some _ _).symm.trans H; rw [hy292]; with_reducible exact H2_) | (have H2_ := (Option.bind_some _ _).symm.trans H; with_reducible exact H2_) | with_reducible exact H | (rw [hy292]; exact H) | exact H
   have Ny292 := Aside0.mk hy292
   clear hy292
   have H' := Aside0.mk H
   clear H
   go_wp2_with (first | ((with_reducible refine gate_callee (f := 130) rfl ?_); refine gL 30 Try.func130 #[.int .i64 a0] ?_; (with_reducible refine (spec_Of.calls kj4 a0 t268 t269 _ A11.out).mono ?_); rintro e w16 ⟨v270, rfl, ho0, hb⟩; refine ⟨_, rfl, ?_⟩; have HO271 := Aside0.mk (Kd.R_lower ho0 (below_size (hbx HB))); replace bK1 := kb bK1 hb; replace HB := bt HB hb; (try clear hb); (try clear hb2); (try clear hk); (try clear hi); (try clear ho0)) | ((with_reducible refine gate_callee (f := 130) rfl ?_); refine gL 32 Try.func130 #[.int .i64 a1] ?_; (with_reducible refine (spec_Of.calls kj4 a1 t272 t273 _ A12.out).mono ?_); rintro e w17 ⟨v274, rfl, ho0, hb⟩; refine ⟨_, rfl, ?_⟩; have n0_ := Aside0.mk (Kd.R_elder' (by (with_reducible repeat (first | apply Kd.R_alloc | apply Kd.R_drewN | apply Kd.R_drew)); exact HO271.out) (Kd.R_base ho0) hb); have n1_ := Aside0.mk (Kd.R_lower (Kd.R_new' ho0 (Kd.R_lt (by (with_reducible repeat (first | apply Kd.R_alloc | apply Kd.R_drewN | apply Kd.R_drew)); exact HO271.out))) (below_size (hbx HB))); have n2_ := kb bK1 hb; have n3_ := bt HB hb; clear HO271; clear bK1; clear HB; have HO271 := n0_; have HO275 := n1_; have bK1 := n2_; have HB := n3_; clear n0_ n1_ n2_ n3_; (try clear hb); (try clear hb2); (try clear hk); (try clear hi); (try clear ho0)) | ((with_reducible refine gate_callee (f := 130) rfl ?_); refine gL 34 Try.func130 #[.int .i64 a2] ?_; (with_reducible refine (spec_Of.calls kj4 a2 t276 t277 _ A13.out).mono ?_); rintro e w18 ⟨v278, rfl, ho0, hb⟩; refine ⟨_, rfl, ?_⟩; have n0_ := Aside0.mk (Kd.R_elder' (by (with_reducible repeat (first | apply Kd.R_alloc | apply Kd.R_drewN | apply Kd.R_drew)); exact HO271.out) (Kd.R_base ho0) hb); have n1_ := Aside0.mk (Kd.R_elder' (by (with_reducible repeat (first | apply Kd.R_alloc | apply Kd.R_drewN | apply Kd.R_drew)); exact HO275.out) (Kd.R_base ho0) hb); have n2_ := Aside0.mk (Kd.R_lower (Kd.R_new' (Kd.R_new' ho0 (Kd.R_lt (by (with_reducible repeat (first | apply Kd.R_alloc | apply Kd.R_drewN | apply Kd.R_drew)); exact HO271.out))) (Kd.R_lt (by (with_reducible repeat (first | apply Kd.R_alloc | apply Kd.R_drewN | apply Kd.R_drew)); exact HO275.out))) (below_size (hbx HB))); have n3_ := kb bK1 hb; have n4_ := bt HB hb; clear HO271; clear HO275; clear bK1; clear HB; have HO271 := n0_; have HO275 := n1_; have HO279 := n2_; have bK1 := n3_; have HB := n4_; clear n0_ n1_ n2_ n3_ n4_; (try clear hb); (try clear hb2); (try clear hk); (try clear hi); (try clear ho0)) | ((with_reducible refine gate_callee (f := 130) rfl ?_); refine gL 36 Try.func130 #[.int .i64 a3] ?_; (with_reducible refine (spec_Of.calls kj4 a3 t280 t281 _ A14.out).mono ?_); rintro e w19 ⟨v282, rfl, ho0, hb⟩; refine ⟨_, rfl, ?_⟩; have n0_ := Aside0.mk (Kd.R_elder' (by (with_reducible repeat (first | apply Kd.R_alloc | apply Kd.R_drewN | apply Kd.R_drew)); exact HO271.out) (Kd.R_base ho0) hb); have n1_ := Aside0.mk (Kd.R_elder' (by (with_reducible repeat (first | apply Kd.R_alloc | apply Kd.R_drewN | apply Kd.R_drew)); exact HO275.out) (Kd.R_base ho0) hb); have n2_ := Aside0.mk (Kd.R_elder' (by (with_reducible repeat (first | apply Kd.R_alloc | apply Kd.R_drewN | apply Kd.R_drew)); exact HO279.out) (Kd.R_base ho0) hb); have n3_ := Aside0.mk (Kd.R_lower (Kd.R_new' (Kd.R_new' (Kd.R_new' ho0 (Kd.R_lt (by (with_reducible repeat (first | apply Kd.R_alloc | apply Kd.R_drewN | apply Kd.R_drew)); exact HO271.out))) (Kd.R_lt (by (with_reducible repeat (first | apply Kd.R_alloc | apply Kd.R_drewN | apply Kd.R_drew)); exact HO275.out))) (Kd.R_lt (by (with_reducible repeat (first | apply Kd.R_alloc | apply Kd.R_drewN | apply Kd.R_drew)); exact HO279.out))) (below_size (hbx HB))); have n4_ := kb bK1 hb; have n5_ := bt HB hb; clear HO271; clear HO275; clear HO279; clear bK1; clear HB; have HO271 := n0_; have HO275 := n1_; have HO279 := n2_; have HO283 := n3_; have bK1 := n4_; have HB := n5_; clear n0_ n1_ n2_ n3_ n4_ n5_; (try clear hb); (try clear hb2); (try clear hk); (try clear hi); (try clear ho0); obtain ⟨Ao20, co20, eo20⟩ := Kd.R_slice HO271.out; subst eo20; obtain ⟨Ao21, co21, eo21⟩ := Kd.R_slice HO275.out; subst eo21; obtain ⟨Ao22, co22, eo22⟩ := Kd.R_slice HO279.out; subst eo22; obtain ⟨Ao23, co23, eo23⟩ := Kd.R_slice HO283.out; subst eo23) | ((with_reducible refine gate_dst (N := 37) rfl ?_); refine Kd.N_lit k116 _ 116 ?hg (N' := 37) ?hd (xs := ([(⟨t268, t269⟩ : S116), (⟨t272, t273⟩ : S116), (⟨t276, t277⟩ : S116), (⟨t280, t281⟩ : S116)] : List (S116))) (inner := [.bool t268, .slice Ao20 t269.length co20, .bool t272, .slice Ao21 t273.length co21, .bool t276, .slice Ao22 t277.length co22, .bool t280, .slice Ao23 t281.length co23]) (ok := (fun k_ => k_ ≠ g1)) (okp := (fun k_ => k_ ≠ g1)) ?hr ?hp (fun _ hk => hk) ((show ∀ k_, w19.heap.size ≤ k_ → (fun k_ => k_ ≠ g1) k_ from fun k_ hk => Kd.freshB (g := g1) (o := .cells #[.int .i64 0, .int .i64 0, .int .i64 0, .int .i64 0] 23 (0, 0)) (kbx bK1) k_ hk) _ (Nat.le_refl _)) (Below.refl _ _) (Nat.le_refl _) (by simp) ?_; (case hd => rfl); (case hg => rfl); (case hr => first | (go_simp; done) | (go_simp; rfl)); (case hp => exact (Reps.c2 (show Kd.FK k116 _ _ (⟨t268, t269⟩ : S116) [.bool t268, .slice Ao20 t269.length co20] from (k116_mkF _ _ (⟨t268, t269⟩ : S116) (Kd.R_reads' (Kd.R_mono (ok' := (fun k_ => k_ ≠ g1)) (Kd.R_types (HO271.out) bK1.out (by decide)) (fun k_ hk => hk.2))).2.1 (Kd.R_F (Kd.R_mono (ok' := (fun k_ => k_ ≠ g1)) (Kd.R_types (HO271.out) bK1.out (by decide)) (fun k_ hk => hk.2))))) (Reps.c2 (show Kd.FK k116 _ _ (⟨t272, t273⟩ : S116) [.bool t272, .slice Ao21 t273.length co21] from (k116_mkF _ _ (⟨t272, t273⟩ : S116) (Kd.R_reads' (Kd.R_mono (ok' := (fun k_ => k_ ≠ g1)) (Kd.R_types (HO275.out) bK1.out (by decide)) (fun k_ hk => hk.2))).2.1 (Kd.R_F (Kd.R_mono (ok' := (fun k_ => k_ ≠ g1)) (Kd.R_types (HO275.out) bK1.out (by decide)) (fun k_ hk => hk.2))))) (Reps.c2 (show Kd.FK k116 _ _ (⟨t276, t277⟩ : S116) [.bool t276, .slice Ao22 t277.length co22] from (k116_mkF _ _ (⟨t276, t277⟩ : S116) (Kd.R_reads' (Kd.R_mono (ok' := (fun k_ => k_ ≠ g1)) (Kd.R_types (HO279.out) bK1.out (by decide)) (fun k_ hk => hk.2))).2.1 (Kd.R_F (Kd.R_mono (ok' := (fun k_ => k_ ≠ g1)) (Kd.R_types (HO279.out) bK1.out (by decide)) (fun k_ hk => hk.2))))) (Reps.c2 (show Kd.FK k116 _ _ (⟨t280, t281⟩ : S116) [.bool t280, .slice Ao23 t281.length co23] from (k116_mkF _ _ (⟨t280, t281⟩ : S116) (Kd.R_reads' (Kd.R_mono (ok' := (fun k_ => k_ ≠ g1)) (Kd.R_types (HO283.out) bK1.out (by decide)) (fun k_ hk => hk.2))).2.1 (Kd.R_F (Kd.R_mono (ok' := (fun k_ => k_ ≠ g1)) (Kd.R_types (HO283.out) bK1.out (by decide)) (fun k_ hk => hk.2))))) (Reps.none _ _)))))); intro v285 w24 ho25 hb hg_ hnew_; clear hg_ hnew_; (first | rw [← Ny284.out] at ho25 | (simp only [Int.reduceToNat] at ho25; rw [← Ny284.out] at ho25)); have HO286 := Aside0.mk (Kd.N_lower ho25 (below_size (hbx HB))); replace bK1 := kb bK1 hb; replace HB := bt HB hb; clear HO271 HO275 HO279 HO283; clear hb ho25; obtain ⟨Ao26, co26, eo26⟩ := Kd.N_slice HO286.out; subst eo26) | ((with_reducible refine gate_callee (f := 131) rfl ?_); refine gL 39 Try.func131 #[.slice Ao26 y284.length co26] ?_; (with_reducible refine (spec_l3NumGcd.calls kj4 _ _ y284 t287 t288 _ ?side1 ?side2 A15.out).mono ?_); (case side1 => repeat (first | exact (Kd.N_reads' HO286.out).2.2 | (with_reducible refine Kd.C_alloc ?_ _) | (with_reducible refine Kd.C_drewN ?_ _) | (with_reducible refine Kd.C_drew ?_))); (case side2 => exact (Kd.N_reads' HO286.out).2.1); rintro e w27 ⟨v289, rfl, ho0, hb⟩; refine ⟨_, rfl, ?_⟩; replace HO286 := Aside0.mk (Kd.N_elder' (by (with_reducible repeat (first | apply Kd.N_alloc | apply Kd.N_drewN | apply Kd.N_drew)); exact HO286.out) (Kd.R_base ho0) hb); have HO290 := Aside0.mk (Kd.R_lower ho0 (below_size (hbx HB))); replace bK1 := kb bK1 hb; replace HB := bt HB hb; (try clear hb); (try clear hb2); (try clear hk); (try clear hi); (try clear ho0)) | ((with_reducible refine gate_dst (N := 11) rfl ?_); refine box_event ?hg (N := 11) ?hd (cs := #[.bool false, .slice none 0 0]) (t := 116) ?hr ?_; (case hd => rfl); (case hg => rfl); (case hr => first | (go_simp; done) | (go_simp; rfl)); intro g2 hg w28 hbox hb; have n0_ := Aside0.mk (Kd.N_below (Kd.N_elderB (by (with_reducible repeat (first | apply Kd.N_alloc | apply Kd.N_drewN | apply Kd.N_drew)); exact HO286.out) g2 (Nat.le_of_eq hg.symm)) hb); have n1_ := Aside0.mk (Kd.R_below (by (with_reducible repeat (first | apply Kd.R_alloc | apply Kd.R_drewN | apply Kd.R_drew)); exact HO290.out) hb); have n2_ := kb bK1 hb; have n3_ := bt HB hb; have n4_ := Aside0.mk (hbox); have n5_ := gx hg HB; have n6_ := gx hg HB; have n7_ := nl hg bK1; have n8_ := nr hg bK1; clear HO286; clear HO290; clear bK1; clear HB; have HO286 := n0_; have HO290 := n1_; have bK1 := n2_; have HB := n3_; have bK2 := n4_; have bW2 := n5_; have bE2 := n6_; have bN1_2 := n7_; have bN2_1 := n8_; clear n0_ n1_ n2_ n3_ n4_ n5_ n6_ n7_ n8_; clear hb hbox hg; have hnb29 := bN2_1.out; have hnc29 := bN1_2.out; obtain ⟨hcz30_0, hcz30_1, hfz30_0, hfz30_1⟩ := cz2 bK2; obtain ⟨Ao31, co31, eo31⟩ := Kd.R_slice HO290.out; subst eo31) | ((with_reducible refine gate_dst (N := 40) rfl ?_); refine Kd.R_lit (Kd.int .i64) _ 3 ?hg (N := 40) ?hd (xs := ([] : List Int)) (inner := []) (ok := fun _ => True) (okp := fun _ => True) ?hr ?hp (fun _ hk => hk) trivial (Below.refl _ _) (Nat.le_refl _) (by simp) ?_; (case hd => rfl); (case hg => rfl); (case hr => first | (go_simp; done) | (go_simp; rfl)); (case hp => exact (Reps.none _ _)); intro v293 w32 ho33 hb hg_ hnew_; clear hg_ hnew_; (first | rw [← Ny292.out] at ho33 | (simp only [Int.reduceToNat] at ho33; rw [← Ny292.out] at ho33)); have n0_ := Aside0.mk (Kd.N_elder' (by (with_reducible repeat (first | apply Kd.N_alloc | apply Kd.N_drewN | apply Kd.N_drew)); exact (Kd.N_mono (Kd.N_far (p := ⟨g2, 1, none⟩) (Kd.N_far (p := ⟨g2, 0, none⟩) (Kd.N_mono HO286.out (fun k_ hk => (⟨hk, hk.2⟩ : _ ∧ k_ ≠ g2))) (fun _ hk => hk.2) (.bool t287)) (fun _ hk => hk.2) (.slice Ao31 t288.length co31)) (fun _ h_ => h_.1))) (Kd.R_base ho33) hb); have n1_ := Aside0.mk (Kd.R_elder' (by (with_reducible repeat (first | apply Kd.R_alloc | apply Kd.R_drewN | apply Kd.R_drew)); exact (Kd.R_mono (Kd.R_far (p := ⟨g2, 1, none⟩) (Kd.R_far (p := ⟨g2, 0, none⟩) (Kd.R_types HO290.out bK2.out (by decide)) (fun _ hk => hk.2) (.bool t287)) (fun _ hk => hk.2) (.slice Ao31 t288.length co31)) (fun _ h_ => h_.1))) (Kd.R_base ho33) hb); have n2_ := Aside0.mk (Kd.R_lower (Kd.R_new' ho33 (Kd.R_lt (by (with_reducible repeat (first | apply Kd.R_alloc | apply Kd.R_drewN | apply Kd.R_drew)); exact (Kd.R_mono (Kd.R_far (p := ⟨g2, 1, none⟩) (Kd.R_far (p := ⟨g2, 0, none⟩) (Kd.R_types HO290.out bK2.out (by decide)) (fun _ hk => hk.2) (.bool t287)) (fun _ hk => hk.2) (.slice Ao31 t288.length co31)) (fun _ h_ => h_.1))))) (below_size (hbx HB))); have n3_ := kf bK1 hb; have n4_ := kp #[.bool t287, .slice Ao31 t288.length co31] bK2 hb; have n5_ := bt HB hb; clear HO286; clear HO290; clear bK1; clear bK2; clear HB; have HO286 := n0_; have HO290 := n1_; have HO294 := n2_; have bK1 := n3_; have bK2 := n4_; have HB := n5_; clear n0_ n1_ n2_ n3_ n4_ n5_; clear hb ho33))
   go_loopg [12, 13] kj4 (fun kq v12 v13 w' => ∃ (x12_2 : List Int) (x13_2 : Int) (x268000_2 : Int) (x268001_2 : Int) (x268002_2 : Int) (x268003_2 : Int), v13 = .int .i64 x13_2 ∧ Aside0 (spec_Primitive.l0 kq y284 x12_2 x13_2 t287 t288 = some (r1, r2, r3, r4, r5)) ∧ Aside0 (kq ≤ kj4) ∧ Aside0 (Kd.N k116 116 w' w.heap.size (fun k_ => some k_ ≠ (v12 : Value).ownBlock ∧ some k_ ≠ ((.slice Ao31 t288.length co31) : Value).ownBlock ∧ k_ ≠ g1 ∧ k_ ≠ g2) (.slice Ao26 y284.length co26) y284) ∧ Aside0 (Kd.R (Kd.int .i64) 3 w' w.heap.size (fun k_ => some k_ ≠ ((.slice Ao31 t288.length co31) : Value).ownBlock) v12 x12_2) ∧ Aside0 (Kd.R (Kd.int .i64) 3 w' w.heap.size (fun k_ => some k_ ≠ (v12 : Value).ownBlock) (.slice Ao31 t288.length co31) t288) ∧ Aside0 (w'.heap[g1]? = some (.cells #[.int .i64 x268000_2, .int .i64 x268001_2, .int .i64 x268002_2, .int .i64 x268003_2] 23 (0, 0))) ∧ Aside0 (w'.heap[g2]? = some (.cells #[.bool t287, (.slice Ao31 t288.length co31)] 116 (0, 0))) ∧ Aside0 (Below w.heap.size w w'))
   case atStart => exact ⟨(y292), (0), (0), (0), (0), (0), re, H', ⟨Nat.le_refl _⟩, ⟨by (with_reducible repeat (first | apply Kd.N_alloc | apply Kd.N_drewN | apply Kd.N_drew)); exact Kd.N_mono HO286.out (fun _ hk => ⟨hk.2, ⟨hk.1.1.2, ⟨hk.1.1.1, hk.1.2⟩⟩⟩)⟩, ⟨by (with_reducible repeat (first | apply Kd.R_alloc | apply Kd.R_drewN | apply Kd.R_drew)); exact Kd.R_mono HO294.out (fun _ hk => hk.2)⟩, ⟨by (with_reducible repeat (first | apply Kd.R_alloc | apply Kd.R_drewN | apply Kd.R_drew)); exact Kd.R_mono HO290.out (fun _ hk => hk.2)⟩, ⟨by (with_reducible repeat (first | refine blk_drewN ?_ _ | refine blk_drew ?_ | refine blk_alloc ?_ _)); exact bK1.out⟩, ⟨by (with_reducible repeat (first | refine blk_drewN ?_ _ | refine blk_drew ?_ | refine blk_alloc ?_ _)); exact bK2.out⟩, ⟨by repeat (first | (with_reducible first | exact HB.out | apply below_alloc | apply pw_below_drewN | apply below_drew1 | refine below_set ?_ bE1.out | refine below_set ?_ bE2.out) | exact HB.out)⟩⟩
   case round =>
    clear H'
    try clear c1
    try clear c2
    try clear p2
    try clear p6
    try clear c7
    try clear c7b0
    try clear c7b1
    try clear c8
    try clear c8b0
    try clear c8b1
    try clear c9
    try clear c13
    try clear c29
    try clear hcz10_0
    try clear hcz10_1
    try clear hcz10_2
    try clear hcz10_3
    try clear hcz30_0
    try clear hcz30_1
    try clear hfz10_0
    try clear hfz10_1
    try clear hfz10_2
    try clear hfz10_3
    try clear hfz30_0
    try clear hfz30_1
    try clear p2
    try clear p6
    obtain ⟨x12_2, x13_2, x268000_2, x268001_2, x268002_2, x268003_2, rfl, HA, HK2, HO_10, HO_12, HO_292001, bK1, bK2, HB⟩ := hrel
    cases gk with
    | zero => exact absurd HA.out (by simp [spec_Primitive.l0])
    | succ k2 =>
     have H := HA.out
     clear HA
     simp only [spec_Primitive.l0] at H
     by_cases c34 : x13_2 < 4
     ·rw [if_pos c34] at H
      have c34b0 : decide (x13_2 < 4) = true := decide_eq_true c34
      clear c34
      by_cases c35 : 0 ≤ x13_2
      ·rw [if_pos c35] at H
       have c35b0 : decide (0 ≤ x13_2) = true := decide_eq_true c35
       clear c35
       by_cases c36 : x13_2 < (y284.length : Int)
       ·rw [if_pos c36] at H
        have c36b0 : decide (x13_2 < (y284.length : Int)) = true := decide_eq_true c36
        clear c36
        obtain ⟨⟨t300, t301⟩, A37, H⟩ := bi H
        dsimp only at H
        obtain ⟨⟨t307, t308⟩, A38, H⟩ := bi H
        dsimp only at H
        obtain ⟨⟨t311, t312⟩, A39, H⟩ := bi H
        dsimp only at H
        have HC40 := Aside0.mk H
        clear H
        try go_wp2
        replace HO_10 := Aside0.mk (Kd.N_drew HO_10.out)
        replace HO_12 := Aside0.mk (Kd.R_drew HO_12.out)
        replace HO_292001 := Aside0.mk (Kd.R_drew HO_292001.out)
        replace bK1 := Aside0.mk (blk_drew bK1.out)
        replace bK2 := Aside0.mk (blk_drew bK2.out)
        replace HB := Aside0.mk (below_drew1 HB.out)
        have p299 : 0 ≤ (x13_2 : Int) := dk
        have q299 : x13_2 < (y284.length : Int) := dk
        obtain ⟨ad299, A299_1, c299_1, e299, hx299_0, hx299_1, hl299_1, hi299_1⟩ := at_T116 (Kd.N_reads' HO_10.out).2.2 x13_2 p299 q299
        cases e299
        obtain ⟨ce299, hce299, hMe299, hcc299⟩ := Kd.N_get HO_10.out z116 x13_2 p299 (by first | exact q299 | exact dk | (have e_ := (Kd.N_reads' HO_10.out).1; omega))
        obtain ⟨ua299_1, uc299_1, rfl, ul299_1, ge299_1⟩ := k116_openF hMe299
        have hv299_1 := hcc299 1 _ rfl
        rw [add_field _ _ 1 (by omega)] at hv299_1
        replace hv299_1 := Option.some.inj (hv299_1.symm.trans hx299_1)
        injection hv299_1 with hva_ hvn_ hvc_
        rw [hva_] at ge299_1
        rw [hvc_] at ul299_1
        have HL299_1 := Aside0.mk (show Kd.V (Kd.int .i64) 3 _ w.heap.size _ _ ((rd_T116 y284 x13_2).f1) from Kd.V_mk ul299_1 ge299_1)
        clear hva_ hvn_ hvc_ ge299_1 ul299_1
        clear hcc299 hce299
        have HR299_1 := Aside0.mk hi299_1
        have HC299_1 := Aside0.mk hl299_1
        clear hi299_1 hl299_1
        replace p299 := eq_true p299
        replace q299 := eq_true q299
        refine start_ (n := 13) (S := fun w' => w'.cell? ⟨g2, 0, none⟩ = some (.bool t287) ∧ w'.cell? ⟨g2, 1, none⟩ = some (.slice Ao31 t288.length co31) ∧ w'.cell? (ad299.add ((x13_2).toNat * 2)) = some (.bool ((rd_T116 y284 x13_2).f0)) ∧ w'.cell? ⟨(ad299.add ((x13_2).toNat * 2)).block, (ad299.add ((x13_2).toNat * 2)).off + 1, none⟩ = some (.slice A299_1 ((rd_T116 y284 x13_2).f1).length c299_1)) (ds := []) (bl 13 0) (by kernel_rfl) rfl rfl ⟨(blk_cell bK2.out 0).trans rfl, (blk_cell bK2.out 1).trans rfl, hx299_0, hx299_1⟩ (fun hHeld => ?_); refine with_tabW spec_Primitive.tab9 spec_Primitive.bits9 (fun HT_ HW_ => ?_)
        generalize wr.drew = w41 at HO_10 HO_12 HO_292001 bK1 bK2 HB HL299_1 HR299_1 hx299_0 hx299_1 hHeld ⊢
        refine pS 0 46 1 ?_
        refine pS 1 47 3 ?_
        refine pS 2 48 7 ?_
        refine pS 3 49 15 ?_
        refine pS 5 51 47 ?_
        refine tS 4 50 63 ?_
        refine tS 6 52 127 ?_
        refine oS 7 53 255 (fun K hK => ?_)
        refine gO Try.func132 #[.slice A299_1 ((rd_T116 y284 x13_2).f1).length c299_1, .slice Ao31 t288.length co31] ?_
        with_reducible refine (spec_l1DivMag.calls k2 _ _ ((rd_T116 y284 x13_2).f1) _ _ t288 t300 t301 _ ?side1 ?side2 ?side3 ?side4 A37.out).mono ?_
        (case side1 => repeat (first | exact (by repeat (first | (with_reducible exact HR299_1.out) | (with_reducible refine Kd.C_alloc ?_ _) | (with_reducible refine Kd.C_drewN ?_ _) | (with_reducible refine Kd.C_drew ?_) | exact HR299_1.out)) | (with_reducible refine Kd.C_alloc ?_ _) | (with_reducible refine Kd.C_drewN ?_ _) | (with_reducible refine Kd.C_drew ?_)))
        (case side2 => exact HC299_1.out)
        (case side3 => repeat (first | exact (Kd.R_reads' HO_292001.out).2.2 | (with_reducible refine Kd.C_alloc ?_ _) | (with_reducible refine Kd.C_drewN ?_ _) | (with_reducible refine Kd.C_drew ?_)))
        (case side4 => exact (Kd.R_reads' HO_292001.out).2.1)
        rintro e w42 ⟨v302, v304, rfl, ho0, ho1, hb⟩
        have HS2_ := (hb.cell (World.block_lt_of_cell? _ _ (hHeld.2.2.1))).trans (hHeld.2.2.1)
        have HS3_ := (hb.cell (World.block_lt_of_cell? _ _ (hHeld.2.2.2))).trans (hHeld.2.2.2)
        refine ⟨_, rfl, ?_⟩
        have n0_ := Aside0.mk (Kd.N_mono (Kd.N_told (Kd.N_told (Kd.N_old (by (with_reducible repeat (first | apply Kd.N_alloc | apply Kd.N_drewN | apply Kd.N_drew)); exact HO_10.out) hb) (Kd.R_base ho0)) (Kd.R_base ho1)) (fun _ h_ => h_.1))
        have n1_ := Aside0.mk (Kd.R_mono (Kd.R_told (Kd.R_told (Kd.R_old (by (with_reducible repeat (first | apply Kd.R_alloc | apply Kd.R_drewN | apply Kd.R_drew)); exact HO_12.out) hb) (Kd.R_base ho0)) (Kd.R_base ho1)) (fun _ h_ => h_.1))
        have n2_ := Aside0.mk (Kd.R_mono (Kd.R_told (Kd.R_told (Kd.R_old (by (with_reducible repeat (first | apply Kd.R_alloc | apply Kd.R_drewN | apply Kd.R_drew)); exact HO_292001.out) hb) (Kd.R_base ho0)) (Kd.R_base ho1)) (fun _ h_ => h_.1))
        have n3_ := Aside0.mk (Kd.V_mono (Kd.V_told (Kd.V_told (Kd.V_old (by (with_reducible repeat (first | apply Kd.V_alloc | apply Kd.V_drewN | apply Kd.V_drew)); exact HL299_1.out) hb) (Kd.R_base ho0)) (Kd.R_base ho1)) (fun _ h_ => h_.1))
        have n4_ := Aside0.mk (Kd.R_lower (Kd.R_new' (Kd.R_new' ho0 (Kd.R_lt (by (with_reducible repeat (first | apply Kd.R_alloc | apply Kd.R_drewN | apply Kd.R_drew)); exact HO_12.out))) (Kd.R_lt (by (with_reducible repeat (first | apply Kd.R_alloc | apply Kd.R_drewN | apply Kd.R_drew)); exact HO_292001.out))) (below_size (hbx HB)))
        have n5_ := Aside0.mk (Kd.R_lower (Kd.R_new' (Kd.R_new' ho1 (Kd.R_lt (by (with_reducible repeat (first | apply Kd.R_alloc | apply Kd.R_drewN | apply Kd.R_drew)); exact HO_12.out))) (Kd.R_lt (by (with_reducible repeat (first | apply Kd.R_alloc | apply Kd.R_drewN | apply Kd.R_drew)); exact HO_292001.out))) (below_size (hbx HB)))
        have n6_ := kb bK1 hb
        have n7_ := kb bK2 hb
        have n8_ := Aside0.mk (Kd.C_below (by repeat (first | (with_reducible exact HR299_1.out) | (with_reducible refine Kd.C_alloc ?_ _) | (with_reducible refine Kd.C_drewN ?_ _) | (with_reducible refine Kd.C_drew ?_) | exact HR299_1.out)) hb)
        have n9_ := bt HB hb
        clear HO_10
        clear HO_12
        clear HO_292001
        clear HL299_1
        clear bK1
        clear bK2
        clear HR299_1
        clear HB
        have HO_10 := n0_
        have HO_12 := n1_
        have HO_292001 := n2_
        have HL299_1 := n3_
        have HO303 := n4_
        have HO305 := n5_
        have bK1 := n6_
        have bK2 := n7_
        have HR299_1 := n8_
        have HB := n9_
        clear n0_ n1_ n2_ n3_ n4_ n5_ n6_ n7_ n8_ n9_
        (try clear hb)
        (try clear hb2)
        (try clear hk)
        (try clear hi)
        (try clear ho0)
        (try clear ho1)
        refine hK.out _ _ ⟨(blk_cell bK2.out 0).trans rfl, (blk_cell bK2.out 1).trans rfl, HS2_, HS3_⟩ (fun hHeld => ?_)
        clear hK K
        refine nm 53 ?_
        refine pS 8 45 511 ?_
        refine pS 9 54 1023 ?_
        refine pS 10 55 2047 ?_
        refine pS 11 14 4095 ?_
        refine pS 12 15 8191 ?_
        refine done_ (done_of HT_.out (by kernel_rfl)) ?_
        have p306 : 0 ≤ (x13_2 : Int) := dk
        have q306 : x13_2 < (y284.length : Int) := dk
        obtain ⟨ad306, A306_1, c306_1, e306, hx306_0, hx306_1, hl306_1, hi306_1⟩ := at_T116 (Kd.N_reads' HO_10.out).2.2 x13_2 p306 q306
        obtain rfl : ad299 = ad306 := (by injection e306)
        obtain ⟨ce306, hce306, hMe306, hcc306⟩ := Kd.N_get HO_10.out z116 x13_2 p306 (by first | exact q306 | exact dk | (have e_ := (Kd.N_reads' HO_10.out).1; omega))
        obtain ⟨ua306_1, uc306_1, rfl, ul306_1, ge306_1⟩ := k116_openF hMe306
        have hv306_1 := hcc306 1 _ rfl
        rw [add_field _ _ 1 (by omega)] at hv306_1
        replace hv306_1 := Option.some.inj (hv306_1.symm.trans hx306_1)
        injection hv306_1 with hva_ hvn_ hvc_
        rw [hva_] at ge306_1
        rw [hvc_] at ul306_1
        have HL306_1 := Aside0.mk (show Kd.V (Kd.int .i64) 3 _ w.heap.size _ _ ((rd_T116 y284 x13_2).f1) from Kd.V_mk ul306_1 ge306_1)
        clear hva_ hvn_ hvc_ ge306_1 ul306_1
        clear hcc306 hce306
        have HR306_1 := Aside0.mk hi306_1
        have HC306_1 := Aside0.mk hl306_1
        clear hi306_1 hl306_1
        replace p306 := eq_true p306
        replace q306 := eq_true q306
        obtain ⟨Ao43, co43, eo43⟩ := Kd.R_slice HO303.out
        subst eo43
        go_upto_region 11 with (first | ((with_reducible refine gate_callee (f := 134) rfl ?_); refine gL 63 Try.func134 #[.bool ((rd_T116 y284 x13_2).f0), .slice Ao43 t300.length co43] ?_; (with_reducible refine (spec_l1Num.calls k2 ((rd_T116 y284 x13_2).f0) _ _ t300 t307 t308 _ ?side1 ?side2 A38.out).mono ?_); (case side1 => repeat (first | exact (Kd.R_reads' HO303.out).2.2 | (with_reducible refine Kd.C_alloc ?_ _) | (with_reducible refine Kd.C_drewN ?_ _) | (with_reducible refine Kd.C_drew ?_))); (case side2 => exact (Kd.R_reads' HO303.out).2.1); rintro e w44 ⟨v309, rfl, ho0, hb⟩; refine ⟨_, rfl, ?_⟩; have n0_ := Aside0.mk (Kd.N_elder' (by (with_reducible repeat (first | apply Kd.N_alloc | apply Kd.N_drewN | apply Kd.N_drew)); exact HO_10.out) (Kd.R_base ho0) hb); have n1_ := Aside0.mk (Kd.R_elder' (by (with_reducible repeat (first | apply Kd.R_alloc | apply Kd.R_drewN | apply Kd.R_drew)); exact HO_12.out) (Kd.R_base ho0) hb); have n2_ := Aside0.mk (Kd.R_elder' (by (with_reducible repeat (first | apply Kd.R_alloc | apply Kd.R_drewN | apply Kd.R_drew)); exact HO_292001.out) (Kd.R_base ho0) hb); have n3_ := Aside0.mk (Kd.V_elder' (by (with_reducible repeat (first | apply Kd.V_alloc | apply Kd.V_drewN | apply Kd.V_drew)); exact HL299_1.out) (Kd.R_base ho0) hb); have n4_ := Aside0.mk (Kd.R_elder' (by (with_reducible repeat (first | apply Kd.R_alloc | apply Kd.R_drewN | apply Kd.R_drew)); exact HO303.out) (Kd.R_base ho0) hb); have n5_ := Aside0.mk (Kd.R_elder' (by (with_reducible repeat (first | apply Kd.R_alloc | apply Kd.R_drewN | apply Kd.R_drew)); exact HO305.out) (Kd.R_base ho0) hb); have n6_ := Aside0.mk (Kd.V_elder' (by (with_reducible repeat (first | apply Kd.V_alloc | apply Kd.V_drewN | apply Kd.V_drew)); exact HL306_1.out) (Kd.R_base ho0) hb); have n7_ := Aside0.mk (Kd.R_lower (Kd.R_new' (Kd.R_new' (Kd.R_new' (Kd.R_new' ho0 (Kd.R_lt (by (with_reducible repeat (first | apply Kd.R_alloc | apply Kd.R_drewN | apply Kd.R_drew)); exact HO_12.out))) (Kd.R_lt (by (with_reducible repeat (first | apply Kd.R_alloc | apply Kd.R_drewN | apply Kd.R_drew)); exact HO_292001.out))) (Kd.R_lt (by (with_reducible repeat (first | apply Kd.R_alloc | apply Kd.R_drewN | apply Kd.R_drew)); exact HO303.out))) (Kd.R_lt (by (with_reducible repeat (first | apply Kd.R_alloc | apply Kd.R_drewN | apply Kd.R_drew)); exact HO305.out))) (below_size (hbx HB))); have n8_ := kb bK1 hb; have n9_ := kb bK2 hb; have n10_ := Aside0.mk (Kd.C_below (by repeat (first | (with_reducible exact HR299_1.out) | (with_reducible refine Kd.C_alloc ?_ _) | (with_reducible refine Kd.C_drewN ?_ _) | (with_reducible refine Kd.C_drew ?_) | exact HR299_1.out)) hb); have n11_ := Aside0.mk (Kd.C_below (by repeat (first | (with_reducible exact HR306_1.out) | (with_reducible refine Kd.C_alloc ?_ _) | (with_reducible refine Kd.C_drewN ?_ _) | (with_reducible refine Kd.C_drew ?_) | exact HR306_1.out)) hb); have n12_ := bt HB hb; clear HO_10; clear HO_12; clear HO_292001; clear HL299_1; clear HO303; clear HO305; clear HL306_1; clear bK1; clear bK2; clear HR299_1; clear HR306_1; clear HB; have HO_10 := n0_; have HO_12 := n1_; have HO_292001 := n2_; have HL299_1 := n3_; have HO303 := n4_; have HO305 := n5_; have HL306_1 := n6_; have HO310 := n7_; have bK1 := n8_; have bK2 := n9_; have HR299_1 := n10_; have HR306_1 := n11_; have HB := n12_; clear n0_ n1_ n2_ n3_ n4_ n5_ n6_ n7_ n8_ n9_ n10_ n11_ n12_; (try clear hb); (try clear hb2); (try clear hk); (try clear hi); (try clear ho0); obtain ⟨Ao45, co45, eo45⟩ := Kd.R_slice HO310.out; subst eo45) | ((with_reducible refine gate_callee (f := 133) rfl ?_); refine gL 64 Try.func133 #[.agg #[.bool t307, .slice Ao45 t308.length co45]] ?_; (with_reducible refine (spec_Small.calls k2 t307 _ _ t308 t311 t312 _ ?side1 ?side2 A39.out).mono ?_); (case side1 => repeat (first | exact (Kd.R_reads' HO310.out).2.2 | (with_reducible refine Kd.C_alloc ?_ _) | (with_reducible refine Kd.C_drewN ?_ _) | (with_reducible refine Kd.C_drew ?_))); (case side2 => exact (Kd.R_reads' HO310.out).2.1); rintro e w46 ⟨rfl, hb⟩; refine ⟨_, rfl, ?_⟩; replace HO_10 := Aside0.mk (Kd.N_below (by (with_reducible repeat (first | apply Kd.N_alloc | apply Kd.N_drewN | apply Kd.N_drew)); exact HO_10.out) hb); replace HO_12 := Aside0.mk (Kd.R_below (by (with_reducible repeat (first | apply Kd.R_alloc | apply Kd.R_drewN | apply Kd.R_drew)); exact HO_12.out) hb); replace HO_292001 := Aside0.mk (Kd.R_below (by (with_reducible repeat (first | apply Kd.R_alloc | apply Kd.R_drewN | apply Kd.R_drew)); exact HO_292001.out) hb); replace HL299_1 := Aside0.mk (Kd.V_below (by (with_reducible repeat (first | apply Kd.V_alloc | apply Kd.V_drewN | apply Kd.V_drew)); exact HL299_1.out) hb); replace HO303 := Aside0.mk (Kd.R_below (by (with_reducible repeat (first | apply Kd.R_alloc | apply Kd.R_drewN | apply Kd.R_drew)); exact HO303.out) hb); replace HO305 := Aside0.mk (Kd.R_below (by (with_reducible repeat (first | apply Kd.R_alloc | apply Kd.R_drewN | apply Kd.R_drew)); exact HO305.out) hb); replace HL306_1 := Aside0.mk (Kd.V_below (by (with_reducible repeat (first | apply Kd.V_alloc | apply Kd.V_drewN | apply Kd.V_drew)); exact HL306_1.out) hb); replace HO310 := Aside0.mk (Kd.R_below (by (with_reducible repeat (first | apply Kd.R_alloc | apply Kd.R_drewN | apply Kd.R_drew)); exact HO310.out) hb); replace bK1 := kb bK1 hb; replace bK2 := kb bK2 hb; replace HR299_1 := Aside0.mk (Kd.C_below (by repeat (first | (with_reducible exact HR299_1.out) | (with_reducible refine Kd.C_alloc ?_ _) | (with_reducible refine Kd.C_drewN ?_ _) | (with_reducible refine Kd.C_drew ?_) | exact HR299_1.out)) hb); replace HR306_1 := Aside0.mk (Kd.C_below (by repeat (first | (with_reducible exact HR306_1.out) | (with_reducible refine Kd.C_alloc ?_ _) | (with_reducible refine Kd.C_drewN ?_ _) | (with_reducible refine Kd.C_drew ?_) | exact HR306_1.out)) hb); replace HB := bt HB hb; (try clear hb); (try clear hb2); (try clear hk); (try clear hi)))
        (try simp only [Act.put, List.setIfInBounds_toArray, List.set_cons_zero, List.set_cons_succ])
        go_cut [73] (fun v73 wc => ∃ (kq : Nat) (x73_39 : Bool), v73 = .bool x73_39 ∧ Aside0 (spec_Primitive.j2 kq y284 x12_2 x13_2 t311 x73_39 t287 t288 = some (r1, r2, r3, r4, r5)) ∧ Aside0 (kq ≤ k2) ∧ Aside0 (Kd.N k116 116 wc w.heap.size (fun k_ => some k_ ≠ (u12 : Value).ownBlock ∧ some k_ ≠ ((.slice Ao31 t288.length co31) : Value).ownBlock ∧ k_ ≠ g1 ∧ k_ ≠ g2) (.slice (some ad299) y284.length co26) y284) ∧ Aside0 (Kd.R (Kd.int .i64) 3 wc w.heap.size (fun k_ => some k_ ≠ ((.slice Ao31 t288.length co31) : Value).ownBlock) u12 x12_2) ∧ Aside0 (Kd.R (Kd.int .i64) 3 wc w.heap.size (fun k_ => some k_ ≠ (u12 : Value).ownBlock) (.slice Ao31 t288.length co31) t288) ∧ Aside0 (wc.heap[g1]? = some (.cells #[.int .i64 x268000_2, .int .i64 x268001_2, .int .i64 x268002_2, .int .i64 x268003_2] 23 (0, 0))) ∧ Aside0 (wc.heap[g2]? = some (.cells #[.bool t287, (.slice Ao31 t288.length co31)] 116 (0, 0))) ∧ Aside0 (Kd.C (Kd.int .i64) wc A299_1 ((rd_T116 y284 x13_2).f1).length ((rd_T116 y284 x13_2).f1)) ∧ Aside0 (Kd.C (Kd.int .i64) wc A306_1 ((rd_T116 y284 x13_2).f1).length ((rd_T116 y284 x13_2).f1)) ∧ Aside0 (Below w.heap.size w wc))
        case first =>
         have H := HC40.out
         clear HC40
         by_cases c47 : t312 = true
         ·subst c47
          have H1 : ((spec_l1In.f t311 (-500) 500).bind fun t313 => (spec_Primitive.j2 k2 y284 x12_2 x13_2 t311 (!t313) t287 t288)) = some (r1, r2, r3, r4, r5) := by rw [if_pos rfl] at H; exact H
          clear H
          have H := H1
          clear H1
          obtain ⟨t313, A48, H⟩ := bi H
          have H' := Aside0.mk H
          clear H
          go_wp2_with (first | (go_at_call 129; (with_reducible refine (spec_l1In.calls t311 (-500) 500 t313 _ A48.out).mono ?_); rintro e w' ⟨rfl, ⟨nd, rfl⟩⟩))
          go_meet
          case rel => exact ⟨_, (!t313), re, H', ⟨by have := HJ4.out; have := HK2.out; first | omega | exact Nat.le_refl _⟩, ⟨by (with_reducible repeat (first | apply Kd.N_alloc | apply Kd.N_drewN | apply Kd.N_drew)); exact Kd.N_mono HO_10.out (fun _ hk => ⟨hk.1.1.1.1, ⟨hk.1.1.1.2.1, ⟨hk.1.1.1.2.2.1, hk.1.1.1.2.2.2⟩⟩⟩)⟩, ⟨by (with_reducible repeat (first | apply Kd.R_alloc | apply Kd.R_drewN | apply Kd.R_drew)); exact Kd.R_mono HO_12.out (fun _ hk => hk.1.1.1)⟩, ⟨by (with_reducible repeat (first | apply Kd.R_alloc | apply Kd.R_drewN | apply Kd.R_drew)); exact Kd.R_mono HO_292001.out (fun _ hk => hk.1.1.1)⟩, ⟨by (with_reducible repeat (first | refine blk_drewN ?_ _ | refine blk_drew ?_ | refine blk_alloc ?_ _)); exact bK1.out⟩, ⟨by (with_reducible repeat (first | refine blk_drewN ?_ _ | refine blk_drew ?_ | refine blk_alloc ?_ _)); exact bK2.out⟩, ⟨by repeat (first | (with_reducible exact HR299_1.out) | (with_reducible refine Kd.C_alloc ?_ _) | (with_reducible refine Kd.C_drewN ?_ _) | (with_reducible refine Kd.C_drew ?_) | exact HR299_1.out)⟩, ⟨by repeat (first | (with_reducible exact HR306_1.out) | (with_reducible refine Kd.C_alloc ?_ _) | (with_reducible refine Kd.C_drewN ?_ _) | (with_reducible refine Kd.C_drew ?_) | exact HR306_1.out)⟩, ⟨by repeat (first | (with_reducible first | exact HB.out | apply below_alloc | apply pw_below_drewN | apply below_drew1 | refine below_set ?_ bE1.out | refine below_set ?_ bE2.out) | exact HB.out)⟩⟩
         replace c47 := Bool.eq_false_iff.mpr c47
         subst c47
         have H1 : (spec_Primitive.j2 k2 y284 x12_2 x13_2 t311 true t287 t288) = some (r1, r2, r3, r4, r5) := by rw [if_neg (show ¬ (false = true) by decide)] at H; exact H
         clear H
         have H := H1
         clear H1
         have H' := Aside0.mk H
         clear H
         go_wp2
         go_meet
         case rel => exact ⟨_, (true), re, H', ⟨by have := HJ4.out; have := HK2.out; first | omega | exact Nat.le_refl _⟩, ⟨by (with_reducible repeat (first | apply Kd.N_alloc | apply Kd.N_drewN | apply Kd.N_drew)); exact Kd.N_mono HO_10.out (fun _ hk => ⟨hk.1.1.1.1, ⟨hk.1.1.1.2.1, ⟨hk.1.1.1.2.2.1, hk.1.1.1.2.2.2⟩⟩⟩)⟩, ⟨by (with_reducible repeat (first | apply Kd.R_alloc | apply Kd.R_drewN | apply Kd.R_drew)); exact Kd.R_mono HO_12.out (fun _ hk => hk.1.1.1)⟩, ⟨by (with_reducible repeat (first | apply Kd.R_alloc | apply Kd.R_drewN | apply Kd.R_drew)); exact Kd.R_mono HO_292001.out (fun _ hk => hk.1.1.1)⟩, ⟨by (with_reducible repeat (first | refine blk_drewN ?_ _ | refine blk_drew ?_ | refine blk_alloc ?_ _)); exact bK1.out⟩, ⟨by (with_reducible repeat (first | refine blk_drewN ?_ _ | refine blk_drew ?_ | refine blk_alloc ?_ _)); exact bK2.out⟩, ⟨by repeat (first | (with_reducible exact HR299_1.out) | (with_reducible refine Kd.C_alloc ?_ _) | (with_reducible refine Kd.C_drewN ?_ _) | (with_reducible refine Kd.C_drew ?_) | exact HR299_1.out)⟩, ⟨by repeat (first | (with_reducible exact HR306_1.out) | (with_reducible refine Kd.C_alloc ?_ _) | (with_reducible refine Kd.C_drewN ?_ _) | (with_reducible refine Kd.C_drew ?_) | exact HR306_1.out)⟩, ⟨by repeat (first | (with_reducible first | exact HB.out | apply below_alloc | apply pw_below_drewN | apply below_drew1 | refine below_set ?_ bE1.out | refine below_set ?_ bE2.out) | exact HB.out)⟩⟩
        case rest =>
         clear HC40
         try clear c1
         try clear c2
         try clear p2
         try clear q2
         try clear hx2
         try clear c3
         try clear p3
         try clear q3
         try clear hx3
         try clear c4
         try clear p6
         try clear c7
         try clear c7b0
         try clear c7b1
         try clear c8
         try clear c8b0
         try clear c8b1
         try clear c9
         try clear c13
         try clear c29
         try clear p29
         try clear q29
         try clear hx29
         try clear c30
         try clear p30
         try clear q30
         try clear hx30
         try clear c34
         try clear c34b0
         try clear c35
         try clear c35b0
         try clear c36
         try clear c36b0
         try clear c47
         try clear hcz10_0
         try clear hcz10_1
         try clear hcz10_2
         try clear hcz10_3
         try clear hcz30_0
         try clear hcz30_1
         try clear hfz10_0
         try clear hfz10_1
         try clear hfz10_2
         try clear hfz10_3
         try clear hfz30_0
         try clear hfz30_1
         try clear hx299_0
         try clear hx299_1
         try clear hx306_0
         try clear hx306_1
         try clear p2
         try clear p299
         try clear p306
         try clear p6
         try clear q299
         try clear q306
         obtain ⟨kq, x73_39, rfl, HA, HJ39, HO_10, HO_12, HO_292001, bK1, bK2, HR299_1, HR306_1, HB⟩ := hcut
         cases kq with
         | zero => exact absurd HA.out (by simp [spec_Primitive.j2])
         | succ kj39 =>
          have H := HA.out
          clear HA
          simp only [spec_Primitive.j2] at H
          by_cases c49 : x73_39 = true
          ·subst c49
           have H1 : (some (0, 0, 0, 0, 2)) = some (r1, r2, r3, r4, r5) := by rw [if_pos rfl] at H; exact H
           clear H
           have H := H1
           clear H1
           simp only [Option.some.injEq, Prod.mk.injEq] at H
           obtain ⟨rfl, rfl, rfl, rfl, rfl⟩ := H
           have hnb50 := bN1_2.out
           have hnc50 := bN2_1.out
           obtain ⟨hcz51_0, hcz51_1, hcz51_2, hcz51_3, hfz51_0, hfz51_1, hfz51_2, hfz51_3⟩ := cz4 bK1
           go_wp2
           refine bodyPost_ret (results_ct rfl _ _ g1 23 #[.int .i64 0, .int .i64 0, .int .i64 0, .int .i64 0] (0, 0) _ rfl (by (with_reducible repeat (first | refine blk_drewN ?_ _ | refine blk_drew ?_ | refine blk_alloc ?_ _)); refine blk_put (cs := #[.int .i64 0, .int .i64 0, .int .i64 0, .int .i64 x268003_2]) ?_ 3 _ rfl; (with_reducible repeat (first | refine blk_drewN ?_ _ | refine blk_drew ?_ | refine blk_alloc ?_ _)); refine blk_put (cs := #[.int .i64 0, .int .i64 0, .int .i64 x268002_2, .int .i64 x268003_2]) ?_ 2 _ rfl; (with_reducible repeat (first | refine blk_drewN ?_ _ | refine blk_drew ?_ | refine blk_alloc ?_ _)); refine blk_put (cs := #[.int .i64 0, .int .i64 x268001_2, .int .i64 x268002_2, .int .i64 x268003_2]) ?_ 1 _ rfl; (with_reducible repeat (first | refine blk_drewN ?_ _ | refine blk_drew ?_ | refine blk_alloc ?_ _)); refine blk_put (cs := #[.int .i64 x268000_2, .int .i64 x268001_2, .int .i64 x268002_2, .int .i64 x268003_2]) ?_ 0 _ rfl; (with_reducible repeat (first | refine blk_drewN ?_ _ | refine blk_drew ?_ | refine blk_alloc ?_ _)); exact bK1.out) Try.underlying23 rfl (by kernel_rfl)) rfl ?_
           exact fin HB
          replace c49 := Bool.eq_false_iff.mpr c49
          subst c49
          have H1 : (if x12_2.length < 17592186044416 then (spec_Primitive.l0 kj39 y284 (x12_2 ++ [t311]) (wrap64 (x13_2 + 1)) t287 t288) else (none)) = some (r1, r2, r3, r4, r5) := by rw [if_neg (show ¬ (false = true) by decide)] at H; exact H
          clear H
          have H := H1
          clear H1
          by_cases c52 : x12_2.length < 17592186044416
          ·rw [if_pos c52] at H
           have LMc52 := Aside0.mk c52
           clear c52
           obtain ⟨y314, hy314⟩ : ∃ y_ : List Int, y_ = (x12_2 ++ [t311]) := ⟨_, rfl⟩
           replace H : (spec_Primitive.l0 kj39 y284 y314 (wrap64 (x13_2 + 1)) t287 t288) = some (r1, r2, r3, r4, r5) := by first | (rw [hy314]; with_reducible exact H) | (have H2_ := (Option.bind_some _ _).symm.trans H; rw [hy314]; with_reducible exact H2_) | (have H2_ := (Option.bind_some _ _).symm.trans H; with_reducible exact H2_) | with_reducible exact H | (rw [hy314]; exact H) | exact H
           have Ny314 := Aside0.mk hy314
           clear hy314
           have H' := Aside0.mk H
           clear H
           go_wp2_with (first | ((with_reducible refine gate_builtin (b := .append) (xs := #[.tmp 75, .tmp 77]) rfl ?_); at_builtin; refine Kd.R_append (Kd.int .i64) (w0 := w) w.heap.size rfl (.tmp 75) (.tmp 77) 68 3 (.int .i64 0) 8 rfl Try.underlying68 info3 rfl (by decide) (by omega) u12 x12_2 t311 [.int .i64 t311] (fun k_ => some k_ ≠ (.slice Ao31 t288.length co31 : Value).ownBlock) (fun _ => False) rfl rfl ?aP (fun _ hk => hk.elim) ?aF ?aO ?aB ?aS ?aL ?_; (case aP => exact rfl); (case aB => exact (hbx HB)); (case aF => exact (fun k_ hk => Kd.fresh' (Kd.R_lt (by (with_reducible repeat (first | apply Kd.R_alloc | apply Kd.R_drewN | apply Kd.R_drew)); exact HO_292001.out)) k_ hk)); (case aO => exact (by (with_reducible repeat (first | apply Kd.R_alloc | apply Kd.R_drewN | apply Kd.R_drew)); exact HO_12.out)); (case aS => exact (below_size (hbx HB))); (case aL => have := LMc52.out; omega); intro v315 w53 ho hb hg hat; rw [← Ny314.out] at ho; replace HO_10 := Aside0.mk (Kd.N_afterv (ok := (fun k_ => some k_ ≠ (.slice Ao31 t288.length co31 : Value).ownBlock ∧ k_ ≠ g1 ∧ k_ ≠ g2)) (by (with_reducible repeat (first | apply Kd.N_alloc | apply Kd.N_drewN | apply Kd.N_drew)); exact Kd.N_mono HO_10.out (fun _ hk => ⟨⟨hk.2.1, ⟨hk.2.2.1, hk.2.2.2⟩⟩, hk.1⟩)) hg hat); replace HO_292001 := Aside0.mk (Kd.R_after (ok := (fun _ => True)) (by (with_reducible repeat (first | apply Kd.R_alloc | apply Kd.R_drewN | apply Kd.R_drew)); exact Kd.R_mono HO_292001.out (fun _ hk => ⟨trivial, hk⟩)) hg hat); replace bK1 := Aside0.mk (blk_grown (g := g1) (o := .cells #[.int .i64 x268000_2, .int .i64 x268001_2, .int .i64 x268002_2, .int .i64 x268003_2] 23 (0, 0)) (kbx bK1) hg (Kd.R_ne HO_12.out bK1.out (by decide))); replace bK2 := Aside0.mk (blk_grown (g := g2) (o := .cells #[.bool t287, .slice Ao31 t288.length co31] 116 (0, 0)) (kbx bK2) hg (Kd.R_ne HO_12.out bK2.out (by decide))); have HO316 := Aside0.mk (ho); replace HB := Aside0.mk (hb); clear HO_12; clear ho hb hg hat))
           go_roundg kj39
           case measure => have := HJ4.out; have := HK2.out; have := HJ39.out; omega
           case rel => exact ⟨(y314), (wrap64 (x13_2 + 1)), (x268000_2), (x268001_2), (x268002_2), (x268003_2), re, H', ⟨by have := HJ4.out; have := HK2.out; have := HJ39.out; omega⟩, ⟨by (with_reducible repeat (first | apply Kd.N_alloc | apply Kd.N_drewN | apply Kd.N_drew)); exact Kd.N_mono HO_10.out (fun _ hk => ⟨hk.2, ⟨hk.1.1, ⟨hk.1.2.1, hk.1.2.2⟩⟩⟩)⟩, ⟨by (with_reducible repeat (first | apply Kd.R_alloc | apply Kd.R_drewN | apply Kd.R_drew)); exact HO316.out⟩, ⟨by (with_reducible repeat (first | apply Kd.R_alloc | apply Kd.R_drewN | apply Kd.R_drew)); exact Kd.R_mono HO_292001.out (fun _ hk => hk.2)⟩, ⟨by (with_reducible repeat (first | refine blk_drewN ?_ _ | refine blk_drew ?_ | refine blk_alloc ?_ _)); exact bK1.out⟩, ⟨by (with_reducible repeat (first | refine blk_drewN ?_ _ | refine blk_drew ?_ | refine blk_alloc ?_ _)); exact bK2.out⟩, ⟨by repeat (first | (with_reducible first | exact HB.out | apply below_alloc | apply pw_below_drewN | apply below_drew1 | refine below_set ?_ bE1.out | refine below_set ?_ bE2.out) | exact HB.out)⟩⟩
          rw [if_neg c52] at H
          exact absurd H (by simp)
       rw [if_neg c36] at H
       exact absurd H (by simp)
      rw [if_neg c35] at H
      exact absurd H (by simp)
     rw [if_neg c34] at H
     have c34b0 : decide (x13_2 < 4) = false := decide_eq_false c34
     clear c34
     by_cases c54 : 0 < (x12_2.length : Int)
     ·rw [if_pos c54] at H
      have c54b0 : decide (0 < (x12_2.length : Int)) = true := decide_eq_true c54
      have c54b1 : decide (0 < x12_2.length) = true := decide_eq_true (by omega)
      clear c54
      by_cases c55 : 1 < (x12_2.length : Int)
      ·rw [if_pos c55] at H
       have c55b0 : decide (1 < (x12_2.length : Int)) = true := decide_eq_true c55
       have c55b1 : decide (1 < x12_2.length) = true := decide_eq_true (by omega)
       clear c55
       by_cases c56 : 2 < (x12_2.length : Int)
       ·rw [if_pos c56] at H
        have c56b0 : decide (2 < (x12_2.length : Int)) = true := decide_eq_true c56
        have c56b1 : decide (2 < x12_2.length) = true := decide_eq_true (by omega)
        clear c56
        by_cases c57 : 3 < (x12_2.length : Int)
        ·rw [if_pos c57] at H
         have c57b0 : decide (3 < (x12_2.length : Int)) = true := decide_eq_true c57
         have c57b1 : decide (3 < x12_2.length) = true := decide_eq_true (by omega)
         clear c57
         simp only [Option.some.injEq, Prod.mk.injEq] at H
         obtain ⟨rfl, rfl, rfl, rfl, rfl⟩ := H
         try go_wp2
         replace HO_10 := Aside0.mk (Kd.N_drew HO_10.out)
         replace HO_12 := Aside0.mk (Kd.R_drew HO_12.out)
         replace HO_292001 := Aside0.mk (Kd.R_drew HO_292001.out)
         replace bK1 := Aside0.mk (blk_drew bK1.out)
         replace bK2 := Aside0.mk (blk_drew bK2.out)
         replace HB := Aside0.mk (below_drew1 HB.out)
         obtain ⟨Ao59, co59, eo59⟩ := Kd.R_slice HO_12.out
         (first | subst eo59 | (injection eo59 with f1_ f2_ f3_; have f4_ := f1_.symm; have f5_ := f3_.symm; clear f1_ f2_ f3_; subst f4_; subst f5_))
         have p295 : 0 ≤ (0 : Int) := (by omega)
         have q295 : 0 < (x12_2.length : Int) := dk
         obtain ⟨ad295, e295, hx295_0⟩ := Kd.at_int (Kd.R_reads' HO_12.out).2.2 0 p295 q295
         cases e295
         have qi295 : (0 < x12_2.length) = True := eq_true (by omega)
         (try rw [show ((0 : Int)).toNat = 0 from rfl] at hx295_0)
         (try rw [Addr.add_zero'] at hx295_0)
         replace p295 := eq_true p295
         replace q295 := eq_true q295
         have p296 : 0 ≤ (1 : Int) := (by omega)
         have q296 : 1 < (x12_2.length : Int) := dk
         obtain ⟨ad296, e296, hx296_0⟩ := Kd.at_int (Kd.R_reads' HO_12.out).2.2 1 p296 q296
         obtain rfl : ad295 = ad296 := (by injection e296)
         (try simp only [show (1 : Int).toNat = 1 from rfl, Nat.reduceMul, Nat.reduceEqDiff, Go.Addr.add, ↓reduceIte] at hx296_0)
         have qi296 : (1 < x12_2.length) = True := eq_true (by omega)
         (try rw [show ((1 : Int)).toNat = 1 from rfl] at hx296_0)
         replace p296 := eq_true p296
         replace q296 := eq_true q296
         have p297 : 0 ≤ (2 : Int) := (by omega)
         have q297 : 2 < (x12_2.length : Int) := dk
         obtain ⟨ad297, e297, hx297_0⟩ := Kd.at_int (Kd.R_reads' HO_12.out).2.2 2 p297 q297
         obtain rfl : ad295 = ad297 := (by injection e297)
         (try simp only [show (2 : Int).toNat = 2 from rfl, Nat.reduceMul, Nat.reduceEqDiff, Go.Addr.add, ↓reduceIte] at hx297_0)
         have qi297 : (2 < x12_2.length) = True := eq_true (by omega)
         (try rw [show ((2 : Int)).toNat = 2 from rfl] at hx297_0)
         replace p297 := eq_true p297
         replace q297 := eq_true q297
         have p298 : 0 ≤ (3 : Int) := (by omega)
         have q298 : 3 < (x12_2.length : Int) := dk
         obtain ⟨ad298, e298, hx298_0⟩ := Kd.at_int (Kd.R_reads' HO_12.out).2.2 3 p298 q298
         obtain rfl : ad295 = ad298 := (by injection e298)
         (try simp only [show (3 : Int).toNat = 3 from rfl, Nat.reduceMul, Nat.reduceEqDiff, Go.Addr.add, ↓reduceIte] at hx298_0)
         have qi298 : (3 < x12_2.length) = True := eq_true (by omega)
         (try rw [show ((3 : Int)).toNat = 3 from rfl] at hx298_0)
         replace p298 := eq_true p298
         replace q298 := eq_true q298
         refine start_ (n := 15) (S := fun w' => w'.cell? ad295 = some (.int .i64 (rd x12_2 0)) ∧ w'.cell? ⟨ad295.block, ad295.off + 1, none⟩ = some (.int .i64 (rd x12_2 1)) ∧ w'.cell? ⟨ad295.block, ad295.off + 2, none⟩ = some (.int .i64 (rd x12_2 2)) ∧ w'.cell? ⟨ad295.block, ad295.off + 3, none⟩ = some (.int .i64 (rd x12_2 3))) (ds := []) (bl 15 0) (by kernel_rfl) rfl rfl ⟨hx295_0, hx296_0, hx297_0, hx298_0⟩ (fun hHeld => ?_); refine with_tabW spec_Primitive.tab14 spec_Primitive.bits14 (fun HT_ HW_ => ?_)
         generalize wr.drew = w58 at HO_10 HO_12 HO_292001 bK1 bK2 HB hx295_0 hx296_0 hx297_0 hx298_0 hHeld ⊢
         refine pS 0 79 1 ?_
         refine pS 1 80 3 ?_
         refine pS 3 82 11 ?_
         refine pS 4 83 27 ?_
         refine pS 6 85 91 ?_
         refine pS 7 86 219 ?_
         refine pS 9 88 731 ?_
         refine pS 10 89 1755 ?_
         refine tS 2 81 1759 ?_
         refine tS 5 84 1791 ?_
         refine tS 8 87 2047 ?_
         refine tS 11 90 4095 ?_
         refine pS 12 91 8191 ?_
         refine one_ (i := 13) (N := none) (bl 15 16383) rfl rfl (one_of HT_.out (by kernel_rfl)) (by decide) (fun K hK => ?_)
         have hs60 : w58.cell? ⟨g1, 0, none⟩ = some (.int .i64 x268000_2) := (blk_cell bK1.out 0).trans rfl
         have hfs60 := blk_frozen bK1.out 0
         have hns60_1 := bN2_1.out
         have hms60_1 := bN1_2.out
         have hs61 : w58.cell? ⟨g1, 1, none⟩ = some (.int .i64 x268001_2) := (blk_cell bK1.out 1).trans rfl
         have hfs61 := blk_frozen bK1.out 1
         have hns61_1 := bN2_1.out
         have hms61_1 := bN1_2.out
         have hs62 : w58.cell? ⟨g1, 2, none⟩ = some (.int .i64 x268002_2) := (blk_cell bK1.out 2).trans rfl
         have hfs62 := blk_frozen bK1.out 2
         have hns62_1 := bN2_1.out
         have hms62_1 := bN1_2.out
         have hs63 : w58.cell? ⟨g1, 3, none⟩ = some (.int .i64 x268003_2) := (blk_cell bK1.out 3).trans rfl
         have hfs63 := blk_frozen bK1.out 3
         have hns63_1 := bN2_1.out
         have hms63_1 := bN1_2.out
         refine skip_ (w1 := ?_) (by rfl) rfl ?_ ?_
         rotate_left
         ·go_simp
          rfl
         refine hK.out _ _ ⟨((cell_far (p := ⟨g1, _, none⟩) (by first | exact Kd.own_blk (Kd.R_ne HO_12.out bK1.out (by decide)) | (rw [add_block]; exact Kd.own_blk (Kd.R_ne HO_12.out bK1.out (by decide))) | (show (Addr.add _ _).block ≠ _; rw [add_block]; exact Kd.own_blk (Kd.R_ne HO_12.out bK1.out (by decide))) | (dsimp only; exact Kd.own_blk (Kd.R_ne HO_12.out bK1.out (by decide)))) _).trans (((cell_far (p := ⟨g1, _, none⟩) (by first | exact Kd.own_blk (Kd.R_ne HO_12.out bK1.out (by decide)) | (rw [add_block]; exact Kd.own_blk (Kd.R_ne HO_12.out bK1.out (by decide))) | (show (Addr.add _ _).block ≠ _; rw [add_block]; exact Kd.own_blk (Kd.R_ne HO_12.out bK1.out (by decide))) | (dsimp only; exact Kd.own_blk (Kd.R_ne HO_12.out bK1.out (by decide)))) _).trans (((cell_far (p := ⟨g1, _, none⟩) (by first | exact Kd.own_blk (Kd.R_ne HO_12.out bK1.out (by decide)) | (rw [add_block]; exact Kd.own_blk (Kd.R_ne HO_12.out bK1.out (by decide))) | (show (Addr.add _ _).block ≠ _; rw [add_block]; exact Kd.own_blk (Kd.R_ne HO_12.out bK1.out (by decide))) | (dsimp only; exact Kd.own_blk (Kd.R_ne HO_12.out bK1.out (by decide)))) _).trans (((cell_far (p := ⟨g1, _, none⟩) (by first | exact Kd.own_blk (Kd.R_ne HO_12.out bK1.out (by decide)) | (rw [add_block]; exact Kd.own_blk (Kd.R_ne HO_12.out bK1.out (by decide))) | (show (Addr.add _ _).block ≠ _; rw [add_block]; exact Kd.own_blk (Kd.R_ne HO_12.out bK1.out (by decide))) | (dsimp only; exact Kd.own_blk (Kd.R_ne HO_12.out bK1.out (by decide)))) _).trans (hHeld.1)))))))), ((cell_far (p := ⟨g1, _, none⟩) (by first | exact Kd.own_blk (Kd.R_ne HO_12.out bK1.out (by decide)) | (rw [add_block]; exact Kd.own_blk (Kd.R_ne HO_12.out bK1.out (by decide))) | (show (Addr.add _ _).block ≠ _; rw [add_block]; exact Kd.own_blk (Kd.R_ne HO_12.out bK1.out (by decide))) | (dsimp only; exact Kd.own_blk (Kd.R_ne HO_12.out bK1.out (by decide)))) _).trans (((cell_far (p := ⟨g1, _, none⟩) (by first | exact Kd.own_blk (Kd.R_ne HO_12.out bK1.out (by decide)) | (rw [add_block]; exact Kd.own_blk (Kd.R_ne HO_12.out bK1.out (by decide))) | (show (Addr.add _ _).block ≠ _; rw [add_block]; exact Kd.own_blk (Kd.R_ne HO_12.out bK1.out (by decide))) | (dsimp only; exact Kd.own_blk (Kd.R_ne HO_12.out bK1.out (by decide)))) _).trans (((cell_far (p := ⟨g1, _, none⟩) (by first | exact Kd.own_blk (Kd.R_ne HO_12.out bK1.out (by decide)) | (rw [add_block]; exact Kd.own_blk (Kd.R_ne HO_12.out bK1.out (by decide))) | (show (Addr.add _ _).block ≠ _; rw [add_block]; exact Kd.own_blk (Kd.R_ne HO_12.out bK1.out (by decide))) | (dsimp only; exact Kd.own_blk (Kd.R_ne HO_12.out bK1.out (by decide)))) _).trans (((cell_far (p := ⟨g1, _, none⟩) (by first | exact Kd.own_blk (Kd.R_ne HO_12.out bK1.out (by decide)) | (rw [add_block]; exact Kd.own_blk (Kd.R_ne HO_12.out bK1.out (by decide))) | (show (Addr.add _ _).block ≠ _; rw [add_block]; exact Kd.own_blk (Kd.R_ne HO_12.out bK1.out (by decide))) | (dsimp only; exact Kd.own_blk (Kd.R_ne HO_12.out bK1.out (by decide)))) _).trans (hHeld.2.1)))))))), ((cell_far (p := ⟨g1, _, none⟩) (by first | exact Kd.own_blk (Kd.R_ne HO_12.out bK1.out (by decide)) | (rw [add_block]; exact Kd.own_blk (Kd.R_ne HO_12.out bK1.out (by decide))) | (show (Addr.add _ _).block ≠ _; rw [add_block]; exact Kd.own_blk (Kd.R_ne HO_12.out bK1.out (by decide))) | (dsimp only; exact Kd.own_blk (Kd.R_ne HO_12.out bK1.out (by decide)))) _).trans (((cell_far (p := ⟨g1, _, none⟩) (by first | exact Kd.own_blk (Kd.R_ne HO_12.out bK1.out (by decide)) | (rw [add_block]; exact Kd.own_blk (Kd.R_ne HO_12.out bK1.out (by decide))) | (show (Addr.add _ _).block ≠ _; rw [add_block]; exact Kd.own_blk (Kd.R_ne HO_12.out bK1.out (by decide))) | (dsimp only; exact Kd.own_blk (Kd.R_ne HO_12.out bK1.out (by decide)))) _).trans (((cell_far (p := ⟨g1, _, none⟩) (by first | exact Kd.own_blk (Kd.R_ne HO_12.out bK1.out (by decide)) | (rw [add_block]; exact Kd.own_blk (Kd.R_ne HO_12.out bK1.out (by decide))) | (show (Addr.add _ _).block ≠ _; rw [add_block]; exact Kd.own_blk (Kd.R_ne HO_12.out bK1.out (by decide))) | (dsimp only; exact Kd.own_blk (Kd.R_ne HO_12.out bK1.out (by decide)))) _).trans (((cell_far (p := ⟨g1, _, none⟩) (by first | exact Kd.own_blk (Kd.R_ne HO_12.out bK1.out (by decide)) | (rw [add_block]; exact Kd.own_blk (Kd.R_ne HO_12.out bK1.out (by decide))) | (show (Addr.add _ _).block ≠ _; rw [add_block]; exact Kd.own_blk (Kd.R_ne HO_12.out bK1.out (by decide))) | (dsimp only; exact Kd.own_blk (Kd.R_ne HO_12.out bK1.out (by decide)))) _).trans (hHeld.2.2.1)))))))), ((cell_far (p := ⟨g1, _, none⟩) (by first | exact Kd.own_blk (Kd.R_ne HO_12.out bK1.out (by decide)) | (rw [add_block]; exact Kd.own_blk (Kd.R_ne HO_12.out bK1.out (by decide))) | (show (Addr.add _ _).block ≠ _; rw [add_block]; exact Kd.own_blk (Kd.R_ne HO_12.out bK1.out (by decide))) | (dsimp only; exact Kd.own_blk (Kd.R_ne HO_12.out bK1.out (by decide)))) _).trans (((cell_far (p := ⟨g1, _, none⟩) (by first | exact Kd.own_blk (Kd.R_ne HO_12.out bK1.out (by decide)) | (rw [add_block]; exact Kd.own_blk (Kd.R_ne HO_12.out bK1.out (by decide))) | (show (Addr.add _ _).block ≠ _; rw [add_block]; exact Kd.own_blk (Kd.R_ne HO_12.out bK1.out (by decide))) | (dsimp only; exact Kd.own_blk (Kd.R_ne HO_12.out bK1.out (by decide)))) _).trans (((cell_far (p := ⟨g1, _, none⟩) (by first | exact Kd.own_blk (Kd.R_ne HO_12.out bK1.out (by decide)) | (rw [add_block]; exact Kd.own_blk (Kd.R_ne HO_12.out bK1.out (by decide))) | (show (Addr.add _ _).block ≠ _; rw [add_block]; exact Kd.own_blk (Kd.R_ne HO_12.out bK1.out (by decide))) | (dsimp only; exact Kd.own_blk (Kd.R_ne HO_12.out bK1.out (by decide)))) _).trans (((cell_far (p := ⟨g1, _, none⟩) (by first | exact Kd.own_blk (Kd.R_ne HO_12.out bK1.out (by decide)) | (rw [add_block]; exact Kd.own_blk (Kd.R_ne HO_12.out bK1.out (by decide))) | (show (Addr.add _ _).block ≠ _; rw [add_block]; exact Kd.own_blk (Kd.R_ne HO_12.out bK1.out (by decide))) | (dsimp only; exact Kd.own_blk (Kd.R_ne HO_12.out bK1.out (by decide)))) _).trans (hHeld.2.2.2))))))))⟩ (fun hHeld => ?_)
         clear hK K
         refine pS 14 9 32767 ?_
         refine done_ (done_of HT_.out (by kernel_rfl)) ?_
         try go_wp2
         refine bodyPost_ret (results_ct rfl _ _ g1 23 #[.int .i64 (rd x12_2 0), .int .i64 (rd x12_2 1), .int .i64 (rd x12_2 2), .int .i64 (rd x12_2 3)] (0, 0) _ rfl (by (with_reducible repeat (first | refine blk_drewN ?_ _ | refine blk_drew ?_ | refine blk_alloc ?_ _)); refine blk_put (cs := #[.int .i64 (rd x12_2 0), .int .i64 (rd x12_2 1), .int .i64 (rd x12_2 2), .int .i64 x268003_2]) ?_ 3 _ rfl; (with_reducible repeat (first | refine blk_drewN ?_ _ | refine blk_drew ?_ | refine blk_alloc ?_ _)); refine blk_put (cs := #[.int .i64 (rd x12_2 0), .int .i64 (rd x12_2 1), .int .i64 x268002_2, .int .i64 x268003_2]) ?_ 2 _ rfl; (with_reducible repeat (first | refine blk_drewN ?_ _ | refine blk_drew ?_ | refine blk_alloc ?_ _)); refine blk_put (cs := #[.int .i64 (rd x12_2 0), .int .i64 x268001_2, .int .i64 x268002_2, .int .i64 x268003_2]) ?_ 1 _ rfl; (with_reducible repeat (first | refine blk_drewN ?_ _ | refine blk_drew ?_ | refine blk_alloc ?_ _)); refine blk_put (cs := #[.int .i64 x268000_2, .int .i64 x268001_2, .int .i64 x268002_2, .int .i64 x268003_2]) ?_ 0 _ rfl; (with_reducible repeat (first | refine blk_drewN ?_ _ | refine blk_drew ?_ | refine blk_alloc ?_ _)); exact bK1.out) Try.underlying23 rfl (by kernel_rfl)) rfl ?_
         exact fin HB
        rw [if_neg c57] at H
        exact absurd H (by simp)
       rw [if_neg c56] at H
       exact absurd H (by simp)
      rw [if_neg c55] at H
      exact absurd H (by simp)
     rw [if_neg c54] at H
     exact absurd H (by simp)

end Go.Proofs.Ytndedincanmaeaa.Print
