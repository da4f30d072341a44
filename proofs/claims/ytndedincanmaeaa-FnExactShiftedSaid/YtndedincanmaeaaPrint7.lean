-- Printed by a program of the session (mkprinter.py, over the kit's print); Lean checks it.
import Derived.Test.YtndedincanmaeaaCp
import Derived.Test.YtndedincanmaeaaPrint0
import Derived.Test.YtndedincanmaeaaPrint4
import Derived.Test.YtndedincanmaeaaPrint6
namespace Go.Proofs.Ytndedincanmaeaa.Print
open Go.RowKit Go.Proofs.YtndedincanmaeaaW.PrintWords Go.Proofs.YtndedincanmaeaaW.PrintLast Go.Proofs.Ytndedincanmaeaa.Cp
set_option linter.unusedVariables false
set_option linter.unusedSimpArgs false

/-! ### spec_Small: function 133 -/
def spec_Small.l0 : Nat → List Int → Int → Int → Bool → List Int → Option (Int × Bool)
 | 0, _, _, _, _, _ => none
 | k + 1, x4, x5, x6, x262000, x262001 => if x6 ≥ 0 then (if x5 > 922337203685477 then (some (0, false)) else (if 0 ≤ x6 then (if x6 < (x4.length : Int) then (spec_Small.l0 k x4 (IntKind.u64.wrap ((IntKind.u64.wrap (x5 * 10000)) + (IntKind.u64.wrap (rd x4 x6)))) (wrap64 (x6 - 1)) x262000 x262001) else (none)) else (none))) else ((spec_l1Sign.f k x262000 x262001).bind fun t266 => (if t266 = true then (if x5 > 9223372036854775808 then (some (0, false)) else (some (wrap64 ((wrap64 (-(wrap64 (IntKind.u64.wrap (x5 - 1))))) - 1), true))) else (if x5 ≥ 9223372036854775808 then (some (0, false)) else (some (wrap64 (x5), true)))))
def spec_Small.f (k : Nat) (a0_0 : Bool) (l0_1 : List Int) : Option (Int × Bool) := (spec_l1Mag.f k a0_0 l0_1).bind fun t262 => (if (t262.length : Int) > 5 then (some (0, false)) else (spec_Small.l0 k t262 0 (wrap64 ((t262.length : Int) - 1)) a0_0 l0_1))
theorem spec_Small.mono_l : ∀ k, (∀ y0 y1 y2 y3 y4, LeO (spec_Small.l0 k y0 y1 y2 y3 y4) (spec_Small.l0 (k + 1) y0 y1 y2 y3 y4))
 | 0 => fun _ _ _ _ _ r h => by simp [spec_Small.l0] at h
 | k + 1 => by
  have ih0 := spec_Small.mono_l k
  intro y0 y1 y2 y3 y4
  unfold spec_Small.l0
  repeat' first
  | (with_reducible exact ih0 _ _ _ _ _)
  | (with_reducible exact spec_l1Mag.mono _ _ _)
  | (with_reducible exact spec_l1Sign.mono _ _ _)
  | (with_reducible exact LeO.refl _)
  | (with_reducible exact LeO.none _)
  | (with_reducible refine LeO.ite ?_ ?_)
  | (with_reducible refine LeO.bind ?_ (fun _ => ?_))
  | exact ih0 _ _ _ _ _
  | exact spec_l1Mag.mono _ _ _
  | exact spec_l1Sign.mono _ _ _
  | exact LeO.none _
  | refine LeO.ite ?_ ?_
  | refine LeO.bind ?_ (fun _ => ?_)
theorem spec_Small.mono : ∀ a0 a1 k, LeO (spec_Small.f k a0 a1) (spec_Small.f (k + 1) a0 a1) := by
 intro a0 a1 k
 have ih0 := spec_Small.mono_l k
 unfold spec_Small.f
 repeat' first
   | (with_reducible exact ih0 _ _ _ _ _)
   | (with_reducible exact spec_l1Mag.mono _ _ _)
   | (with_reducible exact spec_l1Sign.mono _ _ _)
   | (with_reducible exact LeO.refl _)
   | (with_reducible exact LeO.none _)
   | (with_reducible refine LeO.ite ?_ ?_)
   | (with_reducible refine LeO.bind ?_ (fun _ => ?_))
   | exact ih0 _ _ _ _ _
   | exact spec_l1Mag.mono _ _ _
   | exact spec_l1Sign.mono _ _ _
   | exact LeO.none _
   | refine LeO.ite ?_ ?_
   | refine LeO.bind ?_ (fun _ => ?_)
set_option maxHeartbeats 8000000 in
set_option maxRecDepth 100000 in
theorem spec_Small.calls (k : Nat) (a0_0 : Bool) (A0_1 : Option Addr) (c0_1 : Nat) (l0_1 : List Int) (r1 : Int) (r2 : Bool) (w : World) (hr0_1 : Kd.C (Kd.int .i64) w A0_1 l0_1.length l0_1) (hc0_1 : l0_1.length ≤ c0_1) (h : spec_Small.f k a0_0 l0_1 = some (r1, r2)) :
  Calls Try.prog 133 #[.agg #[.bool a0_0, .slice A0_1 l0_1.length c0_1]] w fun e w' => e = .returned (.tuple #[.int .i64 r1, .bool r2]) ∧ Below w.heap.size w w' := by
 have hu116 := Try.underlying116
 have HR0_1 := Aside0.mk hr0_1
 have HC0_1 := Aside0.mk hc0_1
 clear hr0_1 hc0_1
 have HB := Aside0.mk (Below.refl w.heap.size w)
 have H : ((spec_l1Mag.f k a0_0 l0_1).bind fun t262 => (if (t262.length : Int) > 5 then (some (0, false)) else (spec_Small.l0 k t262 0 (wrap64 ((t262.length : Int) - 1)) a0_0 l0_1))) = some (r1, r2) := h
 clear h
 obtain ⟨t262, A2, H⟩ := bi H
 by_cases c3 : (t262.length : Int) > 5
 ·rw [if_pos c3] at H
  have c3b0 : decide (5 < (t262.length : Int)) = true := decide_eq_true c3
  have c3b1 : decide (5 < t262.length) = true := decide_eq_true (by omega)
  clear c3
  simp only [Option.some.injEq, Prod.mk.injEq] at H
  obtain ⟨rfl, rfl⟩ := H
  go_enter Try.func133, Try.ntmps133
  go_wp2_with (first | ((with_reducible refine gate_dst (N := 1) rfl ?_); refine box_event ?hg (N := 1) ?hd (cs := #[.bool a0_0, .slice A0_1 l0_1.length c0_1]) (t := 116) ?hr ?_; (case hd => rfl); (case hg => rfl); (case hr => first | (go_simp; done) | (go_simp; rfl)); intro g1 hg w4 hbox hb; have bK1 := Aside0.mk (hbox); have bW1 := gx hg HB; have bE1 := gx hg HB; replace HB := bt HB hb; clear hb hbox hg; obtain ⟨hcz5_0, hcz5_1, hfz5_0, hfz5_1⟩ := cz2 bK1) | ((with_reducible refine gate_callee (f := 159) rfl ?_); refine gL 8 Try.func159 #[.agg #[.bool a0_0, .slice A0_1 l0_1.length c0_1]] ?_; (with_reducible refine (spec_l1Mag.calls k a0_0 (fun k_ => k_ < w.heap.size) _ _ l0_1 t262 _ ?side1 A2.out).mono ?_); (case side1 => exact Kd.V_mk HC0_1.out (Kd.F_below (Kd.C_F (Kd.heap_int .i64) HR0_1.out) (hbx HB))); rintro e w6 ⟨v263, rfl, ho0, hb⟩; refine ⟨_, rfl, ?_⟩; have HO264 := Aside0.mk (Kd.V_lower (Kd.V_mono (ok' := fun k_ => k_ ≠ g1) ho0 (fun k_ hk_ => Or.elim hk_ (fun hs_ => fun e_ => Nat.not_le.2 hs_ (by rw [e_]; exact bW1.out)) (fun hn_ => (Kd.freshB (g := g1) (o := .cells #[.bool a0_0, .slice A0_1 l0_1.length c0_1] 116 (0, 0)) (kbx bK1) k_ hn_)))) (below_size (hbx HB))); replace bK1 := kb bK1 hb; replace HB := bt HB hb; (try clear hb); (try clear hb2); (try clear hk); (try clear hi); (try clear ho0); obtain ⟨Ao7, co7, eo7⟩ := Kd.V_slice HO264.out; subst eo7))
  go_ret2
  exact fin HB
 rw [if_neg c3] at H
 have c3b0 : decide (5 < (t262.length : Int)) = false := decide_eq_false c3
 have c3b1 : decide (5 < t262.length) = false := decide_eq_false (by omega)
 clear c3
 have H' := Aside0.mk H
 clear H
 go_enter Try.func133, Try.ntmps133
 go_wp2_with (first | ((with_reducible refine gate_dst (N := 1) rfl ?_); refine box_event ?hg (N := 1) ?hd (cs := #[.bool a0_0, .slice A0_1 l0_1.length c0_1]) (t := 116) ?hr ?_; (case hd => rfl); (case hg => rfl); (case hr => first | (go_simp; done) | (go_simp; rfl)); intro g1 hg w8 hbox hb; have bK1 := Aside0.mk (hbox); have bW1 := gx hg HB; have bE1 := gx hg HB; replace HB := bt HB hb; clear hb hbox hg; obtain ⟨hcz9_0, hcz9_1, hfz9_0, hfz9_1⟩ := cz2 bK1) | ((with_reducible refine gate_callee (f := 159) rfl ?_); refine gL 8 Try.func159 #[.agg #[.bool a0_0, .slice A0_1 l0_1.length c0_1]] ?_; (with_reducible refine (spec_l1Mag.calls k a0_0 (fun k_ => k_ < w.heap.size) _ _ l0_1 t262 _ ?side1 A2.out).mono ?_); (case side1 => exact Kd.V_mk HC0_1.out (Kd.F_below (Kd.C_F (Kd.heap_int .i64) HR0_1.out) (hbx HB))); rintro e w10 ⟨v263, rfl, ho0, hb⟩; refine ⟨_, rfl, ?_⟩; have HO264 := Aside0.mk (Kd.V_lower (Kd.V_mono (ok' := fun k_ => k_ ≠ g1) ho0 (fun k_ hk_ => Or.elim hk_ (fun hs_ => fun e_ => Nat.not_le.2 hs_ (by rw [e_]; exact bW1.out)) (fun hn_ => (Kd.freshB (g := g1) (o := .cells #[.bool a0_0, .slice A0_1 l0_1.length c0_1] 116 (0, 0)) (kbx bK1) k_ hn_)))) (below_size (hbx HB))); replace bK1 := kb bK1 hb; replace HB := bt HB hb; (try clear hb); (try clear hb2); (try clear hk); (try clear hi); (try clear ho0); obtain ⟨Ao11, co11, eo11⟩ := Kd.V_slice HO264.out; subst eo11))
 go_loopg [5, 6] k (fun kq v5 v6 w' => ∃ (x5_1 : Int) (x6_1 : Int), v5 = .int .u64 x5_1 ∧ v6 = .int .i64 x6_1 ∧ Aside0 (spec_Small.l0 kq t262 x5_1 x6_1 a0_0 l0_1 = some (r1, r2)) ∧ Aside0 (kq ≤ k) ∧ Aside0 (Kd.V (Kd.int .i64) 3 w' w.heap.size (fun k_ => k_ ≠ g1) (.slice Ao11 t262.length co11) t262) ∧ Aside0 (w'.heap[g1]? = some (.cells #[.bool a0_0, (.slice A0_1 l0_1.length c0_1)] 116 (0, 0))) ∧ Aside0 (Below w.heap.size w w'))
 case atStart => exact ⟨(0), (wrap64 ((t262.length : Int) - 1)), re, re, H', ⟨Nat.le_refl _⟩, ⟨by (with_reducible repeat (first | apply Kd.V_alloc | apply Kd.V_drewN | apply Kd.V_drew)); exact HO264.out⟩, ⟨by (with_reducible repeat (first | refine blk_drewN ?_ _ | refine blk_drew ?_ | refine blk_alloc ?_ _)); exact bK1.out⟩, ⟨by repeat (first | (with_reducible first | exact HB.out | apply below_alloc | apply pw_below_drewN | apply below_drew1 | refine below_set ?_ bE1.out) | exact HB.out)⟩⟩
 case round =>
  clear H'
  try clear c1
  try clear p2
  try clear c3
  try clear c3b0
  try clear c3b1
  try clear p6
  try clear hcz5_0
  try clear hcz5_1
  try clear hcz9_0
  try clear hcz9_1
  try clear hfz5_0
  try clear hfz5_1
  try clear hfz9_0
  try clear hfz9_1
  obtain ⟨x5_1, x6_1, rfl, rfl, HA, HK1, HO_4, bK1, HB⟩ := hrel
  cases gk with
  | zero => exact absurd HA.out (by simp [spec_Small.l0])
  | succ k1 =>
   have H := HA.out
   clear HA
   simp only [spec_Small.l0] at H
   by_cases c12 : x6_1 ≥ 0
   ·rw [if_pos c12] at H
    have c12b0 : decide (0 ≤ x6_1) = true := decide_eq_true c12
    clear c12
    by_cases c13 : x5_1 > 922337203685477
    ·rw [if_pos c13] at H
     have c13b0 : decide (922337203685477 < x5_1) = true := decide_eq_true c13
     clear c13
     simp only [Option.some.injEq, Prod.mk.injEq] at H
     obtain ⟨rfl, rfl⟩ := H
     go_wp2
     go_ret2
     exact fin HB
    rw [if_neg c13] at H
    have c13b0 : decide (922337203685477 < x5_1) = false := decide_eq_false c13
    clear c13
    by_cases c14 : 0 ≤ x6_1
    ·rw [if_pos c14] at H
     have c14b0 : decide (0 ≤ x6_1) = true := decide_eq_true c14
     clear c14
     by_cases c15 : x6_1 < (t262.length : Int)
     ·rw [if_pos c15] at H
      have c15b0 : decide (x6_1 < (t262.length : Int)) = true := decide_eq_true c15
      clear c15
      have H' := Aside0.mk H
      clear H
      have p265 : 0 ≤ (x6_1 : Int) := dk
      have q265 : x6_1 < (t262.length : Int) := dk
      obtain ⟨ad265, e265, hx265_0⟩ := Kd.at_int (Kd.V_reads' HO_4.out).2.2 x6_1 p265 q265
      cases e265
      replace p265 := eq_true p265
      replace q265 := eq_true q265
      go_wp2
      go_roundg k1
      case measure => have := HK1.out; omega
      case rel => exact ⟨(IntKind.u64.wrap ((IntKind.u64.wrap (x5_1 * 10000)) + (IntKind.u64.wrap (rd t262 x6_1)))), (wrap64 (x6_1 - 1)), re, re, H', ⟨by have := HK1.out; omega⟩, ⟨by (with_reducible repeat (first | apply Kd.V_alloc | apply Kd.V_drewN | apply Kd.V_drew)); exact HO_4.out⟩, ⟨by (with_reducible repeat (first | refine blk_drewN ?_ _ | refine blk_drew ?_ | refine blk_alloc ?_ _)); exact bK1.out⟩, ⟨by repeat (first | (with_reducible first | exact HB.out | apply below_alloc | apply pw_below_drewN | apply below_drew1 | refine below_set ?_ bE1.out) | exact HB.out)⟩⟩
     rw [if_neg c15] at H
     exact absurd H (by simp)
    rw [if_neg c14] at H
    exact absurd H (by simp)
   rw [if_neg c12] at H
   have c12b0 : decide (0 ≤ x6_1) = false := decide_eq_false c12
   clear c12
   obtain ⟨t266, A16, H⟩ := bi H
   by_cases c17 : t266 = true
   ·subst c17
    have H1 : (if x5_1 > 9223372036854775808 then (some (0, false)) else (some (wrap64 ((wrap64 (-(wrap64 (IntKind.u64.wrap (x5_1 - 1))))) - 1), true))) = some (r1, r2) := by rw [if_pos rfl] at H; exact H
    clear H
    have H := H1
    clear H1
    by_cases c18 : x5_1 > 9223372036854775808
    ·rw [if_pos c18] at H
     have c18b0 : decide (9223372036854775808 < x5_1) = true := decide_eq_true c18
     clear c18
     simp only [Option.some.injEq, Prod.mk.injEq] at H
     obtain ⟨rfl, rfl⟩ := H
     obtain ⟨hcz19_0, hcz19_1, hfz19_0, hfz19_1⟩ := cz2 bK1
     go_wp2_with (first | ((with_reducible refine gate_callee (f := 160) rfl ?_); refine gL 30 Try.func160 #[.agg #[.bool a0_0, .slice A0_1 l0_1.length c0_1]] ?_; (with_reducible refine (spec_l1Sign.calls k1 a0_0 _ _ l0_1 true _ ?side1 ?side2 A16.out).mono ?_); (case side1 => repeat (first | exact (Kd.C_below HR0_1.out HB.out) | (with_reducible refine Kd.C_alloc ?_ _) | (with_reducible refine Kd.C_drewN ?_ _) | (with_reducible refine Kd.C_drew ?_))); (case side2 => exact HC0_1.out); rintro e w20 ⟨rfl, hb⟩; refine ⟨_, rfl, ?_⟩; replace HO_4 := Aside0.mk (Kd.V_below (by (with_reducible repeat (first | apply Kd.V_alloc | apply Kd.V_drewN | apply Kd.V_drew)); exact HO_4.out) hb); replace bK1 := kb bK1 hb; replace HB := bt HB hb; (try clear hb); (try clear hb2); (try clear hk); (try clear hi)))
     go_ret2
     exact fin HB
    rw [if_neg c18] at H
    have c18b0 : decide (9223372036854775808 < x5_1) = false := decide_eq_false c18
    clear c18
    simp only [Option.some.injEq, Prod.mk.injEq] at H
    obtain ⟨rfl, rfl⟩ := H
    obtain ⟨hcz21_0, hcz21_1, hfz21_0, hfz21_1⟩ := cz2 bK1
    go_wp2_with (first | ((with_reducible refine gate_callee (f := 160) rfl ?_); refine gL 30 Try.func160 #[.agg #[.bool a0_0, .slice A0_1 l0_1.length c0_1]] ?_; (with_reducible refine (spec_l1Sign.calls k1 a0_0 _ _ l0_1 true _ ?side1 ?side2 A16.out).mono ?_); (case side1 => repeat (first | exact (Kd.C_below HR0_1.out HB.out) | (with_reducible refine Kd.C_alloc ?_ _) | (with_reducible refine Kd.C_drewN ?_ _) | (with_reducible refine Kd.C_drew ?_))); (case side2 => exact HC0_1.out); rintro e w22 ⟨rfl, hb⟩; refine ⟨_, rfl, ?_⟩; replace HO_4 := Aside0.mk (Kd.V_below (by (with_reducible repeat (first | apply Kd.V_alloc | apply Kd.V_drewN | apply Kd.V_drew)); exact HO_4.out) hb); replace bK1 := kb bK1 hb; replace HB := bt HB hb; (try clear hb); (try clear hb2); (try clear hk); (try clear hi)))
    go_ret2
    exact fin HB
   replace c17 := Bool.eq_false_iff.mpr c17
   subst c17
   have H1 : (if x5_1 ≥ 9223372036854775808 then (some (0, false)) else (some (wrap64 (x5_1), true))) = some (r1, r2) := by rw [if_neg (show ¬ (false = true) by decide)] at H; exact H
   clear H
   have H := H1
   clear H1
   by_cases c23 : x5_1 ≥ 9223372036854775808
   ·rw [if_pos c23] at H
    have c23b0 : decide (9223372036854775808 ≤ x5_1) = true := decide_eq_true c23
    clear c23
    simp only [Option.some.injEq, Prod.mk.injEq] at H
    obtain ⟨rfl, rfl⟩ := H
    obtain ⟨hcz24_0, hcz24_1, hfz24_0, hfz24_1⟩ := cz2 bK1
    go_wp2_with (first | ((with_reducible refine gate_callee (f := 160) rfl ?_); refine gL 30 Try.func160 #[.agg #[.bool a0_0, .slice A0_1 l0_1.length c0_1]] ?_; (with_reducible refine (spec_l1Sign.calls k1 a0_0 _ _ l0_1 false _ ?side1 ?side2 A16.out).mono ?_); (case side1 => repeat (first | exact (Kd.C_below HR0_1.out HB.out) | (with_reducible refine Kd.C_alloc ?_ _) | (with_reducible refine Kd.C_drewN ?_ _) | (with_reducible refine Kd.C_drew ?_))); (case side2 => exact HC0_1.out); rintro e w25 ⟨rfl, hb⟩; refine ⟨_, rfl, ?_⟩; replace HO_4 := Aside0.mk (Kd.V_below (by (with_reducible repeat (first | apply Kd.V_alloc | apply Kd.V_drewN | apply Kd.V_drew)); exact HO_4.out) hb); replace bK1 := kb bK1 hb; replace HB := bt HB hb; (try clear hb); (try clear hb2); (try clear hk); (try clear hi)))
    go_ret2
    exact fin HB
   rw [if_neg c23] at H
   have c23b0 : decide (9223372036854775808 ≤ x5_1) = false := decide_eq_false c23
   clear c23
   simp only [Option.some.injEq, Prod.mk.injEq] at H
   obtain ⟨rfl, rfl⟩ := H
   obtain ⟨hcz26_0, hcz26_1, hfz26_0, hfz26_1⟩ := cz2 bK1
   go_wp2_with (first | ((with_reducible refine gate_callee (f := 160) rfl ?_); refine gL 30 Try.func160 #[.agg #[.bool a0_0, .slice A0_1 l0_1.length c0_1]] ?_; (with_reducible refine (spec_l1Sign.calls k1 a0_0 _ _ l0_1 false _ ?side1 ?side2 A16.out).mono ?_); (case side1 => repeat (first | exact (Kd.C_below HR0_1.out HB.out) | (with_reducible refine Kd.C_alloc ?_ _) | (with_reducible refine Kd.C_drewN ?_ _) | (with_reducible refine Kd.C_drew ?_))); (case side2 => exact HC0_1.out); rintro e w27 ⟨rfl, hb⟩; refine ⟨_, rfl, ?_⟩; replace HO_4 := Aside0.mk (Kd.V_below (by (with_reducible repeat (first | apply Kd.V_alloc | apply Kd.V_drewN | apply Kd.V_drew)); exact HO_4.out) hb); replace bK1 := kb bK1 hb; replace HB := bt HB hb; (try clear hb); (try clear hb2); (try clear hk); (try clear hi)))
   go_ret2
   exact fin HB

end Go.Proofs.Ytndedincanmaeaa.Print
