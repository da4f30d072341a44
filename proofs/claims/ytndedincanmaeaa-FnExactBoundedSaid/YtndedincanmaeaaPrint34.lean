-- Printed by a program of the session (mkprinter.py, over the kit's print); Lean checks it.
import Derived.Test.YtndedincanmaeaaCp
import Derived.Test.YtndedincanmaeaaPrint0
import Derived.Test.YtndedincanmaeaaPrint11
namespace Go.Proofs.Ytndedincanmaeaa.Print
open Go.RowKit Go.Proofs.YtndedincanmaeaaW.PrintWords Go.Proofs.YtndedincanmaeaaW.PrintLast Go.Proofs.Ytndedincanmaeaa.Cp
set_option linter.unusedVariables false
set_option linter.unusedSimpArgs false

/-! ### impl_goesOn: function 150 -/
def impl_goesOn.l0 : Nat → List (S23) → Int → Int → Int → Int → Int → Option (Bool)
 | 0, _, _, _, _, _, _ => none
 | k + 1, x7, x8, x9, x631000, x631001, x631002 => if x9 < x8 then (if 0 ≤ x9 then (if x9 < (x7.length : Int) then ((impl_normal.f ((rd_T23 x7 x9).f0) ((rd_T23 x7 x9).f1) ((rd_T23 x7 x9).f2) ((rd_T23 x7 x9).f3)).bind fun bt633 => ((impl_dot.f bt633.1 bt633.2.1 bt633.2.2 x631000 x631001 x631002).bind fun t636 => (if t636 < 0 then (some false) else (impl_goesOn.l0 k x7 x8 (wrap64 (x9 + 1)) x631000 x631001 x631002)))) else (none)) else (none)) else (some true)
def impl_goesOn.f (k : Nat) (l0 : List (S23)) (a1_0 : Int) (a1_1 : Int) (a1_2 : Int) : Option (Bool) := impl_goesOn.l0 k l0 (l0.length : Int) 0 a1_0 a1_1 a1_2
theorem impl_goesOn.mono_l : ∀ k, (∀ y0 y1 y2 y3 y4 y5, LeO (impl_goesOn.l0 k y0 y1 y2 y3 y4 y5) (impl_goesOn.l0 (k + 1) y0 y1 y2 y3 y4 y5))
 | 0 => fun _ _ _ _ _ _ r h => by simp [impl_goesOn.l0] at h
 | k + 1 => by
  have ih0 := impl_goesOn.mono_l k
  intro y0 y1 y2 y3 y4 y5
  unfold impl_goesOn.l0
  repeat' first
  | (with_reducible exact ih0 _ _ _ _ _ _)
  | (with_reducible exact LeO.refl _)
  | (with_reducible exact LeO.none _)
  | (with_reducible refine LeO.ite ?_ ?_)
  | (with_reducible refine LeO.bind ?_ (fun _ => ?_))
  | exact ih0 _ _ _ _ _ _
  | exact LeO.none _
  | refine LeO.ite ?_ ?_
  | refine LeO.bind ?_ (fun _ => ?_)
theorem impl_goesOn.mono : ∀ a0 a1 a2 a3 k, LeO (impl_goesOn.f k a0 a1 a2 a3) (impl_goesOn.f (k + 1) a0 a1 a2 a3) := by
 intro a0 a1 a2 a3 k
 have ih0 := impl_goesOn.mono_l k
 unfold impl_goesOn.f
 repeat' first
   | (with_reducible exact ih0 _ _ _ _ _ _)
   | (with_reducible exact LeO.refl _)
   | (with_reducible exact LeO.none _)
   | (with_reducible refine LeO.ite ?_ ?_)
   | (with_reducible refine LeO.bind ?_ (fun _ => ?_))
   | exact ih0 _ _ _ _ _ _
   | exact LeO.none _
   | refine LeO.ite ?_ ?_
   | refine LeO.bind ?_ (fun _ => ?_)
set_option maxHeartbeats 8000000 in
set_option maxRecDepth 100000 in
theorem impl_goesOn.calls (k : Nat) (A0 : Option Addr) (c0 : Nat) (l0 : List (S23)) (a1_0 : Int) (a1_1 : Int) (a1_2 : Int) (r : Bool) (w : World) (hr0 : Kd.C k23 w A0 l0.length l0) (hc0 : l0.length ≤ c0) (h : impl_goesOn.f k l0 a1_0 a1_1 a1_2 = some r) :
  Calls Try.prog 150 #[.slice A0 l0.length c0, .agg #[.int .i64 a1_0, .int .i64 a1_1, .int .i64 a1_2]] w fun e w' => e = .returned (.bool r) ∧ Below w.heap.size w w' := by
 have hu128 := Try.underlying128
 have hu23 := Try.underlying23
 have HR0 := Aside0.mk hr0
 have HC0 := Aside0.mk hc0
 clear hr0 hc0
 have HB := Aside0.mk (Below.refl w.heap.size w)
 have H : (impl_goesOn.l0 k l0 (l0.length : Int) 0 a1_0 a1_1 a1_2) = some r := h
 clear h
 have H' := Aside0.mk H
 clear H
 go_enter Try.func150, Try.ntmps150
 go_wp2_with (first | ((with_reducible refine gate_dst (N := 3) rfl ?_); refine box_event ?hg (N := 3) ?hd (cs := #[.int .i64 a1_0, .int .i64 a1_1, .int .i64 a1_2]) (t := 128) ?hr ?_; (case hd => rfl); (case hg => rfl); (case hr => first | (go_simp; done) | (go_simp; rfl)); intro g1 hg w3 hbox hb; have bK1 := Aside0.mk (hbox); have bW1 := gx hg HB; have bE1 := gx hg HB; replace HB := bt HB hb; clear hb hbox hg))
 go_loopg [9] k (fun kq v9 w' => ∃ (x9_1 : Int), v9 = .int .i64 x9_1 ∧ Aside0 (impl_goesOn.l0 kq l0 (l0.length : Int) x9_1 a1_0 a1_1 a1_2 = some r) ∧ Aside0 (kq ≤ k) ∧ Aside0 (w'.heap[g1]? = some (.cells #[.int .i64 a1_0, .int .i64 a1_1, .int .i64 a1_2] 128 (0, 0))) ∧ Aside0 (Below w.heap.size w w'))
 case atStart => exact ⟨(0), re, H', ⟨Nat.le_refl _⟩, ⟨by (with_reducible repeat (first | refine blk_drewN ?_ _ | refine blk_drew ?_ | refine blk_alloc ?_ _)); exact bK1.out⟩, ⟨by repeat (first | (with_reducible first | exact HB.out | apply below_alloc | apply pw_below_drewN | apply below_drew1 | refine below_set ?_ bE1.out) | exact HB.out)⟩⟩
 case round =>
  clear H'
  obtain ⟨x9_1, rfl, HA, HK1, bK1, HB⟩ := hrel
  cases gk with
  | zero => exact absurd HA.out (by simp [impl_goesOn.l0])
  | succ k1 =>
   have H := HA.out
   clear HA
   simp only [impl_goesOn.l0] at H
   by_cases c4 : x9_1 < (l0.length : Int)
   ·rw [if_pos c4] at H
    have c4b0 : decide (x9_1 < (l0.length : Int)) = true := decide_eq_true c4
    clear c4
    by_cases c5 : 0 ≤ x9_1
    ·rw [if_pos c5] at H
     have c5b0 : decide (0 ≤ x9_1) = true := decide_eq_true c5
     clear c5
     by_cases c6 : x9_1 < (l0.length : Int)
     ·rw [if_pos c6] at H
      have c6b0 : decide (x9_1 < (l0.length : Int)) = true := decide_eq_true c6
      clear c6
      obtain ⟨⟨t633, t634, t635⟩, A7, H⟩ := bi H
      dsimp only at H
      obtain ⟨t636, A8, H⟩ := bi H
      by_cases c9 : t636 < 0
      ·rw [if_pos c9] at H
       have c9b0 : decide (t636 < 0) = true := decide_eq_true c9
       clear c9
       obtain rfl := Option.some.inj H
       have p631 : 0 ≤ (x9_1 : Int) := dk
       have q631 : x9_1 < (l0.length : Int) := dk
       obtain ⟨ad631, e631, hx631_0, hx631_1, hx631_2, hx631_3⟩ := at_T23 HR0.out x9_1 p631 q631
       cases e631
       replace hx631_0 := hc HB hx631_0
       replace hx631_1 := hc HB hx631_1
       replace hx631_2 := hc HB hx631_2
       replace hx631_3 := hc HB hx631_3
       replace p631 := eq_true p631
       replace q631 := eq_true q631
       try go_wp2_with (first | ((with_reducible refine gate_dst (N := 6) rfl ?_); refine box_event ?hg (N := 6) ?hd (cs := #[.int .i64 0, .int .i64 0, .int .i64 0, .int .i64 0]) (t := 23) ?hr ?_; (case hd => rfl); (case hg => rfl); (case hr => first | (go_simp; done) | (go_simp; rfl)); intro g2 hg w10 hbox hb; have n0_ := kb bK1 hb; have n1_ := bt HB hb; have n2_ := Aside0.mk (hbox); have n3_ := gx hg HB; have n4_ := gx hg HB; have n5_ := nl hg bK1; have n6_ := nr hg bK1; clear bK1; clear HB; have bK1 := n0_; have HB := n1_; have bK2 := n2_; have bW2 := n3_; have bE2 := n4_; have bN1_2 := n5_; have bN2_1 := n6_; clear n0_ n1_ n2_ n3_ n4_ n5_ n6_; clear hb hbox hg; have hnb11 := bN2_1.out; have hnc11 := bN1_2.out; obtain ⟨hcz12_0, hcz12_1, hcz12_2, hcz12_3, hfz12_0, hfz12_1, hfz12_2, hfz12_3⟩ := cz4 bK2))
       have n0_ : Aside0 (((((w10.setCell ⟨g2, 0, none⟩ (.int .i64 ((rd_T23 l0 x9_1).f0))).setCell ⟨g2, 1, none⟩ (.int .i64 ((rd_T23 l0 x9_1).f1))).setCell ⟨g2, 2, none⟩ (.int .i64 ((rd_T23 l0 x9_1).f2))).setCell ⟨g2, 3, none⟩ (.int .i64 ((rd_T23 l0 x9_1).f3))).heap[g1]? = some (.cells #[.int .i64 a1_0, .int .i64 a1_1, .int .i64 a1_2] 128 (0, 0))) := ⟨by (with_reducible repeat (first | refine blk_drewN ?_ _ | refine blk_drew ?_ | refine blk_alloc ?_ _)); refine blk_far ?_ bN1_2.out _; (with_reducible repeat (first | refine blk_drewN ?_ _ | refine blk_drew ?_ | refine blk_alloc ?_ _)); refine blk_far ?_ bN1_2.out _; (with_reducible repeat (first | refine blk_drewN ?_ _ | refine blk_drew ?_ | refine blk_alloc ?_ _)); refine blk_far ?_ bN1_2.out _; (with_reducible repeat (first | refine blk_drewN ?_ _ | refine blk_drew ?_ | refine blk_alloc ?_ _)); refine blk_far ?_ bN1_2.out _; (with_reducible repeat (first | refine blk_drewN ?_ _ | refine blk_drew ?_ | refine blk_alloc ?_ _)); exact bK1.out⟩
       have n1_ : Aside0 (((((w10.setCell ⟨g2, 0, none⟩ (.int .i64 ((rd_T23 l0 x9_1).f0))).setCell ⟨g2, 1, none⟩ (.int .i64 ((rd_T23 l0 x9_1).f1))).setCell ⟨g2, 2, none⟩ (.int .i64 ((rd_T23 l0 x9_1).f2))).setCell ⟨g2, 3, none⟩ (.int .i64 ((rd_T23 l0 x9_1).f3))).heap[g2]? = some (.cells #[.int .i64 ((rd_T23 l0 x9_1).f0), .int .i64 ((rd_T23 l0 x9_1).f1), .int .i64 ((rd_T23 l0 x9_1).f2), .int .i64 ((rd_T23 l0 x9_1).f3)] 23 (0, 0))) := ⟨by (with_reducible repeat (first | refine blk_drewN ?_ _ | refine blk_drew ?_ | refine blk_alloc ?_ _)); refine blk_put (cs := #[.int .i64 ((rd_T23 l0 x9_1).f0), .int .i64 ((rd_T23 l0 x9_1).f1), .int .i64 ((rd_T23 l0 x9_1).f2), .int .i64 0]) ?_ 3 _ rfl; (with_reducible repeat (first | refine blk_drewN ?_ _ | refine blk_drew ?_ | refine blk_alloc ?_ _)); refine blk_put (cs := #[.int .i64 ((rd_T23 l0 x9_1).f0), .int .i64 ((rd_T23 l0 x9_1).f1), .int .i64 0, .int .i64 0]) ?_ 2 _ rfl; (with_reducible repeat (first | refine blk_drewN ?_ _ | refine blk_drew ?_ | refine blk_alloc ?_ _)); refine blk_put (cs := #[.int .i64 ((rd_T23 l0 x9_1).f0), .int .i64 0, .int .i64 0, .int .i64 0]) ?_ 1 _ rfl; (with_reducible repeat (first | refine blk_drewN ?_ _ | refine blk_drew ?_ | refine blk_alloc ?_ _)); refine blk_put (cs := #[.int .i64 0, .int .i64 0, .int .i64 0, .int .i64 0]) ?_ 0 _ rfl; (with_reducible repeat (first | refine blk_drewN ?_ _ | refine blk_drew ?_ | refine blk_alloc ?_ _)); exact bK2.out⟩
       have n2_ : Aside0 (Below w.heap.size w ((((w10.setCell ⟨g2, 0, none⟩ (.int .i64 ((rd_T23 l0 x9_1).f0))).setCell ⟨g2, 1, none⟩ (.int .i64 ((rd_T23 l0 x9_1).f1))).setCell ⟨g2, 2, none⟩ (.int .i64 ((rd_T23 l0 x9_1).f2))).setCell ⟨g2, 3, none⟩ (.int .i64 ((rd_T23 l0 x9_1).f3)))) := ⟨by repeat (first | (with_reducible first | exact HB.out | apply below_alloc | apply pw_below_drewN | apply below_drew1 | refine below_set ?_ bE1.out | refine below_set ?_ bE2.out) | exact HB.out)⟩
       (try clear bK1)
       (try clear bK2)
       (try clear HB)
       generalize ((((w10.setCell ⟨g2, 0, none⟩ (.int .i64 ((rd_T23 l0 x9_1).f0))).setCell ⟨g2, 1, none⟩ (.int .i64 ((rd_T23 l0 x9_1).f1))).setCell ⟨g2, 2, none⟩ (.int .i64 ((rd_T23 l0 x9_1).f2))).setCell ⟨g2, 3, none⟩ (.int .i64 ((rd_T23 l0 x9_1).f3))) = w13 at n0_ n1_ n2_ ⊢
       have bK1 := n0_
       have bK2 := n1_
       have HB := n2_
       clear n0_ n1_ n2_
       replace bK1 := Aside0.mk (blk_drew bK1.out)
       replace bK2 := Aside0.mk (blk_drew bK2.out)
       replace HB := Aside0.mk (below_drew1 HB.out)
       refine start_ (n := 5) (S := fun w' => w'.cell? ⟨g2, 0, none⟩ = some (.int .i64 ((rd_T23 l0 x9_1).f0)) ∧ w'.cell? ⟨g2, 1, none⟩ = some (.int .i64 ((rd_T23 l0 x9_1).f1)) ∧ w'.cell? ⟨g2, 2, none⟩ = some (.int .i64 ((rd_T23 l0 x9_1).f2)) ∧ w'.cell? ⟨g2, 3, none⟩ = some (.int .i64 ((rd_T23 l0 x9_1).f3)) ∧ w'.cell? ⟨g1, 0, none⟩ = some (.int .i64 a1_0) ∧ w'.cell? ⟨g1, 1, none⟩ = some (.int .i64 a1_1) ∧ w'.cell? ⟨g1, 2, none⟩ = some (.int .i64 a1_2)) (ds := []) (bl 5 0) (by kernel_rfl) rfl rfl ⟨(blk_cell bK2.out 0).trans rfl, (blk_cell bK2.out 1).trans rfl, (blk_cell bK2.out 2).trans rfl, (blk_cell bK2.out 3).trans rfl, (blk_cell bK1.out 0).trans rfl, (blk_cell bK1.out 1).trans rfl, (blk_cell bK1.out 2).trans rfl⟩ (fun hHeld => ?_)
       generalize w13.drew = w14 at bK1 bK2 HB hHeld ⊢
       refine take_ (i := 0) (N := some 13) (v := ?_) (a' := ?_) (bl 5 1) rfl rfl (by kernel_rfl) (fun _ _ _ h => h) (Or.inl ⟨by rfl, ?_⟩) hHeld ?_ ?_
       rotate_left
       ·rintro w' ⟨s0, s1, s2, s3, s4, s5, s6⟩
        go_simp
        with_reducible rfl
       rotate_left
       ·simp only [Act.put, List.setIfInBounds_toArray, List.set_cons_zero, List.set_cons_succ, i64_w, i32_w]
        rfl
       refine take_ (i := 2) (N := some 15) (v := ?_) (a' := ?_) (bl 5 5) rfl rfl (by kernel_rfl) (fun _ _ _ h => h) (Or.inl ⟨by rfl, ?_⟩) hHeld ?_ ?_
       rotate_left
       ·rintro w' ⟨s0, s1, s2, s3, s4, s5, s6⟩
        go_simp
        with_reducible rfl
       rotate_left
       ·simp only [Act.put, List.setIfInBounds_toArray, List.set_cons_zero, List.set_cons_succ, i64_w, i32_w]
        rfl
       refine one_ (i := 1) (N := some 14) (bl 5 7) rfl rfl (by kernel_rfl) (by decide) (fun K hK => ?_)
       refine gO Try.func149 #[.agg #[.int .i64 ((rd_T23 l0 x9_1).f0), .int .i64 ((rd_T23 l0 x9_1).f1), .int .i64 ((rd_T23 l0 x9_1).f2), .int .i64 ((rd_T23 l0 x9_1).f3)]] ?_
       with_reducible refine (impl_normal.calls ((rd_T23 l0 x9_1).f0) ((rd_T23 l0 x9_1).f1) ((rd_T23 l0 x9_1).f2) ((rd_T23 l0 x9_1).f3) t633 t634 t635 _ A7.out).mono ?_
       rintro e w15 ⟨rfl, hb⟩
       refine ⟨_, rfl, ?_⟩
       replace bK1 := kb bK1 hb
       replace bK2 := kb bK2 hb
       replace HB := bt HB hb
       (try clear hb)
       (try clear hb2)
       (try clear hk)
       (try clear hi)
       refine ko hK (fun hHeld => ?_)
       clear hK K
       refine nm 14 ?_
       refine one_ (i := 3) (N := some 16) (bl 5 15) rfl rfl (by kernel_rfl) (by decide) (fun K hK => ?_)
       refine gO Try.func172 #[.agg #[.int .i64 t633, .int .i64 t634, .int .i64 t635], .agg #[.int .i64 a1_0, .int .i64 a1_1, .int .i64 a1_2]] ?_
       with_reducible refine (impl_dot.calls t633 t634 t635 a1_0 a1_1 a1_2 t636 _ A8.out).mono ?_
       rintro e w16 ⟨rfl, hb⟩
       refine ⟨_, rfl, ?_⟩
       replace bK1 := kb bK1 hb
       replace bK2 := kb bK2 hb
       replace HB := bt HB hb
       (try clear hb)
       (try clear hb2)
       (try clear hk)
       (try clear hi)
       refine ko hK (fun hHeld => ?_)
       clear hK K
       refine nm 16 ?_
       refine pK 4 17 31 ?_
       refine done_ (by kernel_rfl) ?_
       try go_wp2
       go_ret
       exact fin HB
      rw [if_neg c9] at H
      have c9b0 : decide (t636 < 0) = false := decide_eq_false c9
      clear c9
      have H' := Aside0.mk H
      clear H
      have p631 : 0 ≤ (x9_1 : Int) := dk
      have q631 : x9_1 < (l0.length : Int) := dk
      obtain ⟨ad631, e631, hx631_0, hx631_1, hx631_2, hx631_3⟩ := at_T23 HR0.out x9_1 p631 q631
      cases e631
      replace hx631_0 := hc HB hx631_0
      replace hx631_1 := hc HB hx631_1
      replace hx631_2 := hc HB hx631_2
      replace hx631_3 := hc HB hx631_3
      replace p631 := eq_true p631
      replace q631 := eq_true q631
      try go_wp2_with (first | ((with_reducible refine gate_dst (N := 6) rfl ?_); refine box_event ?hg (N := 6) ?hd (cs := #[.int .i64 0, .int .i64 0, .int .i64 0, .int .i64 0]) (t := 23) ?hr ?_; (case hd => rfl); (case hg => rfl); (case hr => first | (go_simp; done) | (go_simp; rfl)); intro g2 hg w17 hbox hb; have n0_ := kb bK1 hb; have n1_ := bt HB hb; have n2_ := Aside0.mk (hbox); have n3_ := gx hg HB; have n4_ := gx hg HB; have n5_ := nl hg bK1; have n6_ := nr hg bK1; clear bK1; clear HB; have bK1 := n0_; have HB := n1_; have bK2 := n2_; have bW2 := n3_; have bE2 := n4_; have bN1_2 := n5_; have bN2_1 := n6_; clear n0_ n1_ n2_ n3_ n4_ n5_ n6_; clear hb hbox hg; have hnb18 := bN2_1.out; have hnc18 := bN1_2.out; obtain ⟨hcz19_0, hcz19_1, hcz19_2, hcz19_3, hfz19_0, hfz19_1, hfz19_2, hfz19_3⟩ := cz4 bK2))
      have n0_ : Aside0 (((((w17.setCell ⟨g2, 0, none⟩ (.int .i64 ((rd_T23 l0 x9_1).f0))).setCell ⟨g2, 1, none⟩ (.int .i64 ((rd_T23 l0 x9_1).f1))).setCell ⟨g2, 2, none⟩ (.int .i64 ((rd_T23 l0 x9_1).f2))).setCell ⟨g2, 3, none⟩ (.int .i64 ((rd_T23 l0 x9_1).f3))).heap[g1]? = some (.cells #[.int .i64 a1_0, .int .i64 a1_1, .int .i64 a1_2] 128 (0, 0))) := ⟨by (with_reducible repeat (first | refine blk_drewN ?_ _ | refine blk_drew ?_ | refine blk_alloc ?_ _)); refine blk_far ?_ bN1_2.out _; (with_reducible repeat (first | refine blk_drewN ?_ _ | refine blk_drew ?_ | refine blk_alloc ?_ _)); refine blk_far ?_ bN1_2.out _; (with_reducible repeat (first | refine blk_drewN ?_ _ | refine blk_drew ?_ | refine blk_alloc ?_ _)); refine blk_far ?_ bN1_2.out _; (with_reducible repeat (first | refine blk_drewN ?_ _ | refine blk_drew ?_ | refine blk_alloc ?_ _)); refine blk_far ?_ bN1_2.out _; (with_reducible repeat (first | refine blk_drewN ?_ _ | refine blk_drew ?_ | refine blk_alloc ?_ _)); exact bK1.out⟩
      have n1_ : Aside0 (((((w17.setCell ⟨g2, 0, none⟩ (.int .i64 ((rd_T23 l0 x9_1).f0))).setCell ⟨g2, 1, none⟩ (.int .i64 ((rd_T23 l0 x9_1).f1))).setCell ⟨g2, 2, none⟩ (.int .i64 ((rd_T23 l0 x9_1).f2))).setCell ⟨g2, 3, none⟩ (.int .i64 ((rd_T23 l0 x9_1).f3))).heap[g2]? = some (.cells #[.int .i64 ((rd_T23 l0 x9_1).f0), .int .i64 ((rd_T23 l0 x9_1).f1), .int .i64 ((rd_T23 l0 x9_1).f2), .int .i64 ((rd_T23 l0 x9_1).f3)] 23 (0, 0))) := ⟨by (with_reducible repeat (first | refine blk_drewN ?_ _ | refine blk_drew ?_ | refine blk_alloc ?_ _)); refine blk_put (cs := #[.int .i64 ((rd_T23 l0 x9_1).f0), .int .i64 ((rd_T23 l0 x9_1).f1), .int .i64 ((rd_T23 l0 x9_1).f2), .int .i64 0]) ?_ 3 _ rfl; (with_reducible repeat (first | refine blk_drewN ?_ _ | refine blk_drew ?_ | refine blk_alloc ?_ _)); refine blk_put (cs := #[.int .i64 ((rd_T23 l0 x9_1).f0), .int .i64 ((rd_T23 l0 x9_1).f1), .int .i64 0, .int .i64 0]) ?_ 2 _ rfl; (with_reducible repeat (first | refine blk_drewN ?_ _ | refine blk_drew ?_ | refine blk_alloc ?_ _)); refine blk_put (cs := #[.int .i64 ((rd_T23 l0 x9_1).f0), .int .i64 0, .int .i64 0, .int .i64 0]) ?_ 1 _ rfl; (with_reducible repeat (first | refine blk_drewN ?_ _ | refine blk_drew ?_ | refine blk_alloc ?_ _)); refine blk_put (cs := #[.int .i64 0, .int .i64 0, .int .i64 0, .int .i64 0]) ?_ 0 _ rfl; (with_reducible repeat (first | refine blk_drewN ?_ _ | refine blk_drew ?_ | refine blk_alloc ?_ _)); exact bK2.out⟩
      have n2_ : Aside0 (Below w.heap.size w ((((w17.setCell ⟨g2, 0, none⟩ (.int .i64 ((rd_T23 l0 x9_1).f0))).setCell ⟨g2, 1, none⟩ (.int .i64 ((rd_T23 l0 x9_1).f1))).setCell ⟨g2, 2, none⟩ (.int .i64 ((rd_T23 l0 x9_1).f2))).setCell ⟨g2, 3, none⟩ (.int .i64 ((rd_T23 l0 x9_1).f3)))) := ⟨by repeat (first | (with_reducible first | exact HB.out | apply below_alloc | apply pw_below_drewN | apply below_drew1 | refine below_set ?_ bE1.out | refine below_set ?_ bE2.out) | exact HB.out)⟩
      (try clear bK1)
      (try clear bK2)
      (try clear HB)
      generalize ((((w17.setCell ⟨g2, 0, none⟩ (.int .i64 ((rd_T23 l0 x9_1).f0))).setCell ⟨g2, 1, none⟩ (.int .i64 ((rd_T23 l0 x9_1).f1))).setCell ⟨g2, 2, none⟩ (.int .i64 ((rd_T23 l0 x9_1).f2))).setCell ⟨g2, 3, none⟩ (.int .i64 ((rd_T23 l0 x9_1).f3))) = w20 at n0_ n1_ n2_ ⊢
      have bK1 := n0_
      have bK2 := n1_
      have HB := n2_
      clear n0_ n1_ n2_
      replace bK1 := Aside0.mk (blk_drew bK1.out)
      replace bK2 := Aside0.mk (blk_drew bK2.out)
      replace HB := Aside0.mk (below_drew1 HB.out)
      refine start_ (n := 5) (S := fun w' => w'.cell? ⟨g2, 0, none⟩ = some (.int .i64 ((rd_T23 l0 x9_1).f0)) ∧ w'.cell? ⟨g2, 1, none⟩ = some (.int .i64 ((rd_T23 l0 x9_1).f1)) ∧ w'.cell? ⟨g2, 2, none⟩ = some (.int .i64 ((rd_T23 l0 x9_1).f2)) ∧ w'.cell? ⟨g2, 3, none⟩ = some (.int .i64 ((rd_T23 l0 x9_1).f3)) ∧ w'.cell? ⟨g1, 0, none⟩ = some (.int .i64 a1_0) ∧ w'.cell? ⟨g1, 1, none⟩ = some (.int .i64 a1_1) ∧ w'.cell? ⟨g1, 2, none⟩ = some (.int .i64 a1_2)) (ds := []) (bl 5 0) (by kernel_rfl) rfl rfl ⟨(blk_cell bK2.out 0).trans rfl, (blk_cell bK2.out 1).trans rfl, (blk_cell bK2.out 2).trans rfl, (blk_cell bK2.out 3).trans rfl, (blk_cell bK1.out 0).trans rfl, (blk_cell bK1.out 1).trans rfl, (blk_cell bK1.out 2).trans rfl⟩ (fun hHeld => ?_)
      generalize w20.drew = w21 at bK1 bK2 HB hHeld ⊢
      refine take_ (i := 0) (N := some 13) (v := ?_) (a' := ?_) (bl 5 1) rfl rfl (by kernel_rfl) (fun _ _ _ h => h) (Or.inl ⟨by rfl, ?_⟩) hHeld ?_ ?_
      rotate_left
      ·rintro w' ⟨s0, s1, s2, s3, s4, s5, s6⟩
       go_simp
       with_reducible rfl
      rotate_left
      ·simp only [Act.put, List.setIfInBounds_toArray, List.set_cons_zero, List.set_cons_succ, i64_w, i32_w]
       rfl
      refine take_ (i := 2) (N := some 15) (v := ?_) (a' := ?_) (bl 5 5) rfl rfl (by kernel_rfl) (fun _ _ _ h => h) (Or.inl ⟨by rfl, ?_⟩) hHeld ?_ ?_
      rotate_left
      ·rintro w' ⟨s0, s1, s2, s3, s4, s5, s6⟩
       go_simp
       with_reducible rfl
      rotate_left
      ·simp only [Act.put, List.setIfInBounds_toArray, List.set_cons_zero, List.set_cons_succ, i64_w, i32_w]
       rfl
      refine one_ (i := 1) (N := some 14) (bl 5 7) rfl rfl (by kernel_rfl) (by decide) (fun K hK => ?_)
      refine gO Try.func149 #[.agg #[.int .i64 ((rd_T23 l0 x9_1).f0), .int .i64 ((rd_T23 l0 x9_1).f1), .int .i64 ((rd_T23 l0 x9_1).f2), .int .i64 ((rd_T23 l0 x9_1).f3)]] ?_
      with_reducible refine (impl_normal.calls ((rd_T23 l0 x9_1).f0) ((rd_T23 l0 x9_1).f1) ((rd_T23 l0 x9_1).f2) ((rd_T23 l0 x9_1).f3) t633 t634 t635 _ A7.out).mono ?_
      rintro e w22 ⟨rfl, hb⟩
      refine ⟨_, rfl, ?_⟩
      replace bK1 := kb bK1 hb
      replace bK2 := kb bK2 hb
      replace HB := bt HB hb
      (try clear hb)
      (try clear hb2)
      (try clear hk)
      (try clear hi)
      refine ko hK (fun hHeld => ?_)
      clear hK K
      refine nm 14 ?_
      refine one_ (i := 3) (N := some 16) (bl 5 15) rfl rfl (by kernel_rfl) (by decide) (fun K hK => ?_)
      refine gO Try.func172 #[.agg #[.int .i64 t633, .int .i64 t634, .int .i64 t635], .agg #[.int .i64 a1_0, .int .i64 a1_1, .int .i64 a1_2]] ?_
      with_reducible refine (impl_dot.calls t633 t634 t635 a1_0 a1_1 a1_2 t636 _ A8.out).mono ?_
      rintro e w23 ⟨rfl, hb⟩
      refine ⟨_, rfl, ?_⟩
      replace bK1 := kb bK1 hb
      replace bK2 := kb bK2 hb
      replace HB := bt HB hb
      (try clear hb)
      (try clear hb2)
      (try clear hk)
      (try clear hi)
      refine ko hK (fun hHeld => ?_)
      clear hK K
      refine nm 16 ?_
      refine pK 4 17 31 ?_
      refine done_ (by kernel_rfl) ?_
      try go_wp2
      go_roundg k1
      case measure => have := HK1.out; omega
      case rel => exact ⟨(wrap64 (x9_1 + 1)), re, H', ⟨by have := HK1.out; omega⟩, ⟨by (with_reducible repeat (first | refine blk_drewN ?_ _ | refine blk_drew ?_ | refine blk_alloc ?_ _)); exact bK1.out⟩, ⟨by repeat (first | (with_reducible first | exact HB.out | apply below_alloc | apply pw_below_drewN | apply below_drew1 | refine below_set ?_ bE1.out | refine below_set ?_ bE2.out) | exact HB.out)⟩⟩
     rw [if_neg c6] at H
     exact absurd H (by simp)
    rw [if_neg c5] at H
    exact absurd H (by simp)
   rw [if_neg c4] at H
   have c4b0 : decide (x9_1 < (l0.length : Int)) = false := decide_eq_false c4
   clear c4
   obtain rfl := Option.some.inj H
   go_wp2
   go_ret
   exact fin HB

end Go.Proofs.Ytndedincanmaeaa.Print
