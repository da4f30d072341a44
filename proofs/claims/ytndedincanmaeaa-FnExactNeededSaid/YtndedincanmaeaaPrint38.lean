-- Printed by a program of the session (mkprinter.py, over the kit's print); Lean checks it.
import Derived.Test.YtndedincanmaeaaCp
import Derived.Test.YtndedincanmaeaaPrint0
import Derived.Test.YtndedincanmaeaaPrint1
import Derived.Test.YtndedincanmaeaaPrint17
import Derived.Test.YtndedincanmaeaaPrint18
import Derived.Test.YtndedincanmaeaaPrint23
import Derived.Test.YtndedincanmaeaaPrint37
namespace Go.Proofs.Ytndedincanmaeaa.Print
open Go.RowKit Go.Proofs.YtndedincanmaeaaW.PrintWords Go.Proofs.YtndedincanmaeaaW.PrintLast Go.Proofs.Ytndedincanmaeaa.Cp
set_option linter.unusedVariables false
set_option linter.unusedSimpArgs false

attribute [local go_sem high] eqA23
/-! ### impl_needed: function 113 -/
mutual
def impl_needed.l0 : Nat → List (S23) → List Int → List (S23) → Int → Int → Option (List Int)
 | 0, _, _, _, _, _ => none
 | k + 1, x0, x3, x9, x10, x11 => if x11 < x10 then (if 0 ≤ x11 then (if x11 < (x9.length : Int) then ((impl_Plane.f k x0 ((rd_T23 x9 x11).f0) ((rd_T23 x9 x11).f1) ((rd_T23 x9 x11).f2) ((rd_T23 x9 x11).f3)).bind fun t705 => (if t705 = x11 then (impl_needed.l1 k x0 x3 x11 ([] : List (S23)) x9 x10 x11 x0 (x0.length : Int) 0 ((rd_T23 x9 x11).f0) ((rd_T23 x9 x11).f1) ((rd_T23 x9 x11).f2) ((rd_T23 x9 x11).f3)) else (impl_needed.l0 k x0 x3 x9 x10 (wrap64 (x11 + 1))))) else (none)) else (none)) else (some x3)
def impl_needed.l1 : Nat → List (S23) → List Int → Int → List (S23) → List (S23) → Int → Int → List (S23) → Int → Int → Int → Int → Int → Int → Option (List Int)
 | 0, _, _, _, _, _, _, _, _, _, _, _, _, _, _ => none
 | k + 1, x0, x3, x4, x6, x9, x10, x11, x21, x22, x23, x705000, x705001, x705002, x705003 => if x23 < x22 then (if 0 ≤ x23 then (if x23 < (x21.length : Int) then (if (!(((rd_T23 x21 x23).f0) == x705000) || (!(((rd_T23 x21 x23).f1) == x705001) || (!(((rd_T23 x21 x23).f2) == x705002) || (!(((rd_T23 x21 x23).f3) == x705003))))) = true then (if x6.length < 4398046511104 then (impl_needed.l1 k x0 x3 x4 (x6 ++ [(⟨(rd_T23 x21 x23).f0, (rd_T23 x21 x23).f1, (rd_T23 x21 x23).f2, (rd_T23 x21 x23).f3⟩ : S23)]) x9 x10 x11 x21 x22 (wrap64 (x23 + 1)) x705000 x705001 x705002 x705003) else (none)) else (impl_needed.l1 k x0 x3 x4 x6 x9 x10 x11 x21 x22 (wrap64 (x23 + 1)) x705000 x705001 x705002 x705003)) else (none)) else (none)) else ((impl_flip.f x705000 x705001 x705002 x705003).bind fun bt711 => ((impl_room.f k x6 bt711.1 bt711.2.1 bt711.2.2.1 bt711.2.2.2).bind fun t715 => (if t715 = true then (if x3.length < 17592186044416 then (impl_needed.l0 k x0 (x3 ++ [x4]) x9 x10 (wrap64 (x11 + 1))) else (none)) else (impl_needed.l0 k x0 x3 x9 x10 (wrap64 (x11 + 1))))))
end
def impl_needed.f (k : Nat) (l0 : List (S23)) : Option (List Int) := impl_needed.l0 k l0 ([] : List Int) l0 (l0.length : Int) 0
theorem impl_needed.mono_l : ∀ k, (∀ y0 y1 y2 y3 y4, LeO (impl_needed.l0 k y0 y1 y2 y3 y4) (impl_needed.l0 (k + 1) y0 y1 y2 y3 y4)) ∧ (∀ y0 y1 y2 y3 y4 y5 y6 y7 y8 y9 y10 y11 y12 y13, LeO (impl_needed.l1 k y0 y1 y2 y3 y4 y5 y6 y7 y8 y9 y10 y11 y12 y13) (impl_needed.l1 (k + 1) y0 y1 y2 y3 y4 y5 y6 y7 y8 y9 y10 y11 y12 y13))
 | 0 => ⟨fun _ _ _ _ _ r h => by simp [impl_needed.l0] at h, fun _ _ _ _ _ _ _ _ _ _ _ _ _ _ r h => by simp [impl_needed.l1] at h⟩
 | k + 1 => by
  obtain ⟨ih0, ih1⟩ := impl_needed.mono_l k
  refine ⟨?_, ?_⟩
  ·intro y0 y1 y2 y3 y4
   unfold impl_needed.l0
   repeat' first
   | (with_reducible exact ih0 _ _ _ _ _)
   | (with_reducible exact ih1 _ _ _ _ _ _ _ _ _ _ _ _ _ _)
   | (with_reducible exact impl_Plane.mono _ _ _ _ _ _)
   | (with_reducible exact impl_room.mono _ _ _ _ _ _)
   | (with_reducible exact LeO.refl _)
   | (with_reducible exact LeO.none _)
   | (with_reducible refine LeO.ite ?_ ?_)
   | (with_reducible refine LeO.bind ?_ (fun _ => ?_))
   | exact ih0 _ _ _ _ _
   | exact ih1 _ _ _ _ _ _ _ _ _ _ _ _ _ _
   | exact impl_Plane.mono _ _ _ _ _ _
   | exact impl_room.mono _ _ _ _ _ _
   | exact LeO.none _
   | refine LeO.ite ?_ ?_
   | refine LeO.bind ?_ (fun _ => ?_)
  intro y0 y1 y2 y3 y4 y5 y6 y7 y8 y9 y10 y11 y12 y13
  unfold impl_needed.l1
  repeat' first
  | (with_reducible exact ih0 _ _ _ _ _)
  | (with_reducible exact ih1 _ _ _ _ _ _ _ _ _ _ _ _ _ _)
  | (with_reducible exact impl_Plane.mono _ _ _ _ _ _)
  | (with_reducible exact impl_room.mono _ _ _ _ _ _)
  | (with_reducible exact LeO.refl _)
  | (with_reducible exact LeO.none _)
  | (with_reducible refine LeO.ite ?_ ?_)
  | (with_reducible refine LeO.bind ?_ (fun _ => ?_))
  | exact ih0 _ _ _ _ _
  | exact ih1 _ _ _ _ _ _ _ _ _ _ _ _ _ _
  | exact impl_Plane.mono _ _ _ _ _ _
  | exact impl_room.mono _ _ _ _ _ _
  | exact LeO.none _
  | refine LeO.ite ?_ ?_
  | refine LeO.bind ?_ (fun _ => ?_)
theorem impl_needed.mono : ∀ a0 k, LeO (impl_needed.f k a0) (impl_needed.f (k + 1) a0) := by
 intro a0 k
 obtain ⟨ih0, ih1⟩ := impl_needed.mono_l k
 unfold impl_needed.f
 repeat' first
   | (with_reducible exact ih0 _ _ _ _ _)
   | (with_reducible exact ih1 _ _ _ _ _ _ _ _ _ _ _ _ _ _)
   | (with_reducible exact impl_Plane.mono _ _ _ _ _ _)
   | (with_reducible exact impl_room.mono _ _ _ _ _ _)
   | (with_reducible exact LeO.refl _)
   | (with_reducible exact LeO.none _)
   | (with_reducible refine LeO.ite ?_ ?_)
   | (with_reducible refine LeO.bind ?_ (fun _ => ?_))
   | exact ih0 _ _ _ _ _
   | exact ih1 _ _ _ _ _ _ _ _ _ _ _ _ _ _
   | exact impl_Plane.mono _ _ _ _ _ _
   | exact impl_room.mono _ _ _ _ _ _
   | exact LeO.none _
   | refine LeO.ite ?_ ?_
   | refine LeO.bind ?_ (fun _ => ?_)
set_option maxHeartbeats 8000000 in
set_option maxRecDepth 100000 in
theorem impl_needed.calls (k : Nat) (A0 : Option Addr) (c0 : Nat) (l0 : List (S23)) (r : List Int) (w : World) (hr0 : Kd.C k23 w A0 l0.length l0) (hc0 : l0.length ≤ c0) (h : impl_needed.f k l0 = some r) :
  Calls Try.prog 113 #[.slice A0 l0.length c0] w fun e w' => ∃ v0_ : Value, e = .returned (v0_) ∧ Kd.R (Kd.int .i64) 3 w' w.heap.size (fun _ => True) v0_ r ∧ Below w.heap.size w w' := by
 have hu23 := Try.underlying23
 have HR0 := Aside0.mk hr0
 have HC0 := Aside0.mk hc0
 clear hr0 hc0
 have HB := Aside0.mk (Below.refl w.heap.size w)
 have H : (impl_needed.l0 k l0 ([] : List Int) l0 (l0.length : Int) 0) = some r := h
 clear h
 have H' := Aside0.mk H
 clear H
 go_enter Try.func113, Try.ntmps113
 go_wp2
 go_loopg [3, 11] k (fun kq v3 v11 w' => ∃ (x3_1 : List Int) (x11_1 : Int), v11 = .int .i64 x11_1 ∧ Aside0 (impl_needed.l0 kq l0 x3_1 l0 (l0.length : Int) x11_1 = some r) ∧ Aside0 (kq ≤ k) ∧ Aside0 (Kd.R (Kd.int .i64) 3 w' w.heap.size (fun _ => True) v3 x3_1) ∧ Aside0 (Below w.heap.size w w'))
 case atStart => exact ⟨(([] : List Int)), (0), re, H', ⟨Nat.le_refl _⟩, ⟨by first | exact Kd.R_nil _ _ _ _ _ | exact Kd.N_nil _ _ _ _ _ | exact Kd.V_nil _ _ _ _ _ | exact Kd.Q_nil _ _ _ _ _ | exact Kd.S_nil _ _ _ _ _⟩, ⟨by repeat (first | (with_reducible first | exact HB.out | apply below_alloc | apply pw_below_drewN | apply below_drew1) | exact HB.out)⟩⟩
 case round =>
  clear H'
  obtain ⟨x3_1, x11_1, rfl, HA, HK1, HO_3, HB⟩ := hrel
  cases gk with
  | zero => exact absurd HA.out (by simp [impl_needed.l0])
  | succ k1 =>
   have H := HA.out
   clear HA
   simp only [impl_needed.l0] at H
   by_cases c2 : x11_1 < (l0.length : Int)
   ·rw [if_pos c2] at H
    have c2b0 : decide (x11_1 < (l0.length : Int)) = true := decide_eq_true c2
    clear c2
    by_cases c3 : 0 ≤ x11_1
    ·rw [if_pos c3] at H
     have c3b0 : decide (0 ≤ x11_1) = true := decide_eq_true c3
     clear c3
     by_cases c4 : x11_1 < (l0.length : Int)
     ·rw [if_pos c4] at H
      have c4b0 : decide (x11_1 < (l0.length : Int)) = true := decide_eq_true c4
      clear c4
      obtain ⟨t705, A5, H⟩ := bi H
      by_cases c6 : t705 = x11_1
      ·rw [if_pos c6] at H
       have c6b0 : (t705 == x11_1) = true := beq_iff_eq.mpr c6
       have c6b1 : (t705 != x11_1) = false := bne_eq_false_iff_eq.mpr c6
       clear c6
       have H' := Aside0.mk H
       clear H
       have p703 : 0 ≤ (x11_1 : Int) := dk
       have q703 : x11_1 < (l0.length : Int) := dk
       obtain ⟨ad703, e703, hx703_0, hx703_1, hx703_2, hx703_3⟩ := at_T23 HR0.out x11_1 p703 q703
       cases e703
       replace hx703_0 := hc HB hx703_0
       replace hx703_1 := hc HB hx703_1
       replace hx703_2 := hc HB hx703_2
       replace hx703_3 := hc HB hx703_3
       replace p703 := eq_true p703
       replace q703 := eq_true q703
       go_wp2_with (first | ((with_reducible refine gate_dst (N := 5) rfl ?_); refine box_event ?hg (N := 5) ?hd (cs := #[.int .i64 0, .int .i64 0, .int .i64 0, .int .i64 0]) (t := 23) ?hr ?_; (case hd => rfl); (case hg => rfl); (case hr => first | (go_simp; done) | (go_simp; rfl)); intro g1 hg w7 hbox hb; replace HO_3 := Aside0.mk (Kd.R_below (by (with_reducible repeat (first | apply Kd.R_alloc | apply Kd.R_drewN | apply Kd.R_drew)); exact HO_3.out) hb); have bK1 := Aside0.mk (hbox); have bW1 := gx hg HB; have bE1 := gx hg HB; replace HB := bt HB hb; clear hb hbox hg; obtain ⟨hcz8_0, hcz8_1, hcz8_2, hcz8_3, hfz8_0, hfz8_1, hfz8_2, hfz8_3⟩ := cz4 bK1) | ((with_reducible refine gate_callee (f := 151) rfl ?_); refine gL 18 Try.func151 #[.slice (some ad703) l0.length c0, .agg #[.int .i64 ((rd_T23 l0 x11_1).f0), .int .i64 ((rd_T23 l0 x11_1).f1), .int .i64 ((rd_T23 l0 x11_1).f2), .int .i64 ((rd_T23 l0 x11_1).f3)]] ?_; (with_reducible refine (impl_Plane.calls k1 _ _ l0 ((rd_T23 l0 x11_1).f0) ((rd_T23 l0 x11_1).f1) ((rd_T23 l0 x11_1).f2) ((rd_T23 l0 x11_1).f3) t705 _ ?side1 ?side2 A5.out).mono ?_); (case side1 => exact Kd.C_below HR0.out (hbx HB)); (case side2 => exact HC0.out); rintro e w9 ⟨rfl, hb⟩; refine ⟨_, rfl, ?_⟩; replace HO_3 := Aside0.mk (Kd.R_below (by (with_reducible repeat (first | apply Kd.R_alloc | apply Kd.R_drewN | apply Kd.R_drew)); exact (Kd.R_mono (Kd.R_far (p := ⟨g1, 3, none⟩) (Kd.R_far (p := ⟨g1, 2, none⟩) (Kd.R_far (p := ⟨g1, 1, none⟩) (Kd.R_far (p := ⟨g1, 0, none⟩) (Kd.R_types HO_3.out bK1.out (by decide)) (fun _ hk => hk.2) (.int .i64 ((rd_T23 l0 x11_1).f0))) (fun _ hk => hk.2) (.int .i64 ((rd_T23 l0 x11_1).f1))) (fun _ hk => hk.2) (.int .i64 ((rd_T23 l0 x11_1).f2))) (fun _ hk => hk.2) (.int .i64 ((rd_T23 l0 x11_1).f3))) (fun _ h_ => h_.1))) hb); replace bK1 := kp #[.int .i64 ((rd_T23 l0 x11_1).f0), .int .i64 ((rd_T23 l0 x11_1).f1), .int .i64 ((rd_T23 l0 x11_1).f2), .int .i64 ((rd_T23 l0 x11_1).f3)] bK1 hb; replace HB := bt HB hb; (try clear hb); (try clear hb2); (try clear hk); (try clear hi)))
       go_loopg [6, 23] k1 (fun kq v6 v23 w' => ∃ (x6_2 : List (S23)) (x23_2 : Int), v23 = .int .i64 x23_2 ∧ Aside0 (impl_needed.l1 kq l0 x3_1 x11_1 x6_2 l0 (l0.length : Int) x11_1 l0 (l0.length : Int) x23_2 ((rd_T23 l0 x11_1).f0) ((rd_T23 l0 x11_1).f1) ((rd_T23 l0 x11_1).f2) ((rd_T23 l0 x11_1).f3) = some r) ∧ Aside0 (kq ≤ k1) ∧ Aside0 (Kd.R (Kd.int .i64) 3 w' w.heap.size (fun _ => True) u3 x3_1) ∧ Aside0 (Kd.R k23 23 w' w.heap.size (fun k_ => k_ ≠ g1) v6 x6_2) ∧ Aside0 (w'.heap[g1]? = some (.cells #[.int .i64 ((rd_T23 l0 x11_1).f0), .int .i64 ((rd_T23 l0 x11_1).f1), .int .i64 ((rd_T23 l0 x11_1).f2), .int .i64 ((rd_T23 l0 x11_1).f3)] 23 (0, 0))) ∧ Aside0 (Below w.heap.size w w'))
       case atStart => exact ⟨(([] : List (S23))), (0), re, H', ⟨Nat.le_refl _⟩, ⟨by (with_reducible repeat (first | apply Kd.R_alloc | apply Kd.R_drewN | apply Kd.R_drew)); exact HO_3.out⟩, ⟨by first | exact Kd.R_nil _ _ _ _ _ | exact Kd.N_nil _ _ _ _ _ | exact Kd.V_nil _ _ _ _ _ | exact Kd.Q_nil _ _ _ _ _ | exact Kd.S_nil _ _ _ _ _⟩, ⟨by (with_reducible repeat (first | refine blk_drewN ?_ _ | refine blk_drew ?_ | refine blk_alloc ?_ _)); exact bK1.out⟩, ⟨by repeat (first | (with_reducible first | exact HB.out | apply below_alloc | apply pw_below_drewN | apply below_drew1 | refine below_set ?_ bE1.out) | exact HB.out)⟩⟩
       case round =>
        clear H'
        obtain ⟨x6_2, x23_2, rfl, HA, HK2, HO_3, HO_6, bK1, HB⟩ := hrel
        cases gk with
        | zero => exact absurd HA.out (by simp [impl_needed.l1])
        | succ k2 =>
         have H := HA.out
         clear HA
         simp only [impl_needed.l1] at H
         by_cases c10 : x23_2 < (l0.length : Int)
         ·rw [if_pos c10] at H
          have c10b0 : decide (x23_2 < (l0.length : Int)) = true := decide_eq_true c10
          clear c10
          by_cases c11 : 0 ≤ x23_2
          ·rw [if_pos c11] at H
           have c11b0 : decide (0 ≤ x23_2) = true := decide_eq_true c11
           clear c11
           by_cases c12 : x23_2 < (l0.length : Int)
           ·rw [if_pos c12] at H
            have c12b0 : decide (x23_2 < (l0.length : Int)) = true := decide_eq_true c12
            clear c12
            by_cases c13 : (!(((rd_T23 l0 x23_2).f0) == ((rd_T23 l0 x11_1).f0)) || (!(((rd_T23 l0 x23_2).f1) == ((rd_T23 l0 x11_1).f1)) || (!(((rd_T23 l0 x23_2).f2) == ((rd_T23 l0 x11_1).f2)) || (!(((rd_T23 l0 x23_2).f3) == ((rd_T23 l0 x11_1).f3)))))) = true
            ·rw [if_pos c13] at H
             have c13b0 : (!(((rd_T23 l0 x23_2).f0) == ((rd_T23 l0 x11_1).f0)) || (!(((rd_T23 l0 x23_2).f1) == ((rd_T23 l0 x11_1).f1)) || (!(((rd_T23 l0 x23_2).f2) == ((rd_T23 l0 x11_1).f2)) || (!(((rd_T23 l0 x23_2).f3) == ((rd_T23 l0 x11_1).f3)))))) = true := c13
             clear c13
             by_cases c14 : x6_2.length < 4398046511104
             ·rw [if_pos c14] at H
              have LMc14 := Aside0.mk c14
              clear c14
              obtain ⟨y708, hy708⟩ : ∃ y_ : List (S23), y_ = (x6_2 ++ [(⟨(rd_T23 l0 x23_2).f0, (rd_T23 l0 x23_2).f1, (rd_T23 l0 x23_2).f2, (rd_T23 l0 x23_2).f3⟩ : S23)]) := ⟨_, rfl⟩
              replace H : (impl_needed.l1 k2 l0 x3_1 x11_1 y708 l0 (l0.length : Int) x11_1 l0 (l0.length : Int) (wrap64 (x23_2 + 1)) ((rd_T23 l0 x11_1).f0) ((rd_T23 l0 x11_1).f1) ((rd_T23 l0 x11_1).f2) ((rd_T23 l0 x11_1).f3)) = some r := by first | (rw [hy708]; with_reducible exact H) | (have H2_ := (Option.bind_some _ _).symm.trans H; rw [hy708]; with_reducible exact H2_) | (have H2_ := (Option.bind_some _ _).symm.trans H; with_reducible exact H2_) | with_reducible exact H | (rw [hy708]; exact H) | exact H
              have Ny708 := Aside0.mk hy708
              clear hy708
              have H' := Aside0.mk H
              clear H
              have p706 : 0 ≤ (x23_2 : Int) := dk
              have q706 : x23_2 < (l0.length : Int) := dk
              obtain ⟨ad706, e706, hx706_0, hx706_1, hx706_2, hx706_3⟩ := at_T23 HR0.out x23_2 p706 q706
              obtain rfl : ad703 = ad706 := (by injection e706)
              replace hx706_0 := hc HB hx706_0
              replace hx706_1 := hc HB hx706_1
              replace hx706_2 := hc HB hx706_2
              replace hx706_3 := hc HB hx706_3
              replace p706 := eq_true p706
              replace q706 := eq_true q706
              go_wp2_with (first | ((with_reducible refine gate_dst (N := 8) rfl ?_); refine box_event ?hg (N := 8) ?hd (cs := #[.int .i64 0, .int .i64 0, .int .i64 0, .int .i64 0]) (t := 23) ?hr ?_; (case hd => rfl); (case hg => rfl); (case hr => first | (go_simp; done) | (go_simp; rfl)); intro g2 hg w15 hbox hb; have n0_ := Aside0.mk (Kd.R_below (by (with_reducible repeat (first | apply Kd.R_alloc | apply Kd.R_drewN | apply Kd.R_drew)); exact HO_3.out) hb); have n1_ := Aside0.mk (Kd.R_below (Kd.R_elderB (by (with_reducible repeat (first | apply Kd.R_alloc | apply Kd.R_drewN | apply Kd.R_drew)); exact HO_6.out) g2 (Nat.le_of_eq hg.symm)) hb); have n2_ := kb bK1 hb; have n3_ := bt HB hb; have n4_ := Aside0.mk (hbox); have n5_ := gx hg HB; have n6_ := gx hg HB; have n7_ := nl hg bK1; have n8_ := nr hg bK1; clear HO_3; clear HO_6; clear bK1; clear HB; have HO_3 := n0_; have HO_6 := n1_; have bK1 := n2_; have HB := n3_; have bK2 := n4_; have bW2 := n5_; have bE2 := n6_; have bN1_2 := n7_; have bN2_1 := n8_; clear n0_ n1_ n2_ n3_ n4_ n5_ n6_ n7_ n8_; clear hb hbox hg; have hnb16 := bN2_1.out; have hnc16 := bN1_2.out; obtain ⟨hcz17_0, hcz17_1, hcz17_2, hcz17_3, hfz17_0, hfz17_1, hfz17_2, hfz17_3⟩ := cz4 bK2; obtain ⟨hcz18_0, hcz18_1, hcz18_2, hcz18_3, hfz18_0, hfz18_1, hfz18_2, hfz18_3⟩ := cz4 bK1) | ((with_reducible refine gate_builtin (b := .append) (xs := #[.tmp 30, .tmp 32]) rfl ?_); at_builtin; refine Kd.R_append k23 (w0 := w) w.heap.size rfl (.tmp 30) (.tmp 32) 53 23 (.agg #[(.int .i64 0), (.int .i64 0), (.int .i64 0), (.int .i64 0)]) 32 rfl Try.underlying53 info23 rfl (by decide) (by omega) u6 x6_2 (⟨(rd_T23 l0 x23_2).f0, (rd_T23 l0 x23_2).f1, (rd_T23 l0 x23_2).f2, (rd_T23 l0 x23_2).f3⟩ : S23) [.int .i64 ((rd_T23 l0 x23_2).f0), .int .i64 ((rd_T23 l0 x23_2).f1), .int .i64 ((rd_T23 l0 x23_2).f2), .int .i64 ((rd_T23 l0 x23_2).f3)] (fun k_ => k_ ≠ g1 ∧ k_ ≠ g2) (fun _ => False) rfl (by first | (go_simp; done) | (go_simp; rfl)) ?aP (fun _ hk => hk.elim) ?aF ?aO ?aB ?aS ?aL ?_; (case aP => exact k23_mkM _ _ _ (⟨(rd_T23 l0 x23_2).f0, (rd_T23 l0 x23_2).f1, (rd_T23 l0 x23_2).f2, (rd_T23 l0 x23_2).f3⟩ : S23)); (case aB => exact (hbx HB)); (case aF => exact (fun k_ hk => ⟨Kd.freshB (g := g1) (o := .cells #[.int .i64 ((rd_T23 l0 x11_1).f0), .int .i64 ((rd_T23 l0 x11_1).f1), .int .i64 ((rd_T23 l0 x11_1).f2), .int .i64 ((rd_T23 l0 x11_1).f3)] 23 (0, 0)) (kfx bK1) k_ hk, Kd.freshB (g := g2) (o := .cells #[.int .i64 ((rd_T23 l0 x23_2).f0), .int .i64 ((rd_T23 l0 x23_2).f1), .int .i64 ((rd_T23 l0 x23_2).f2), .int .i64 ((rd_T23 l0 x23_2).f3)] 23 (0, 0)) (by (with_reducible repeat (first | refine blk_drewN ?_ _ | refine blk_drew ?_ | refine blk_alloc ?_ _)); refine blk_put (cs := #[.int .i64 ((rd_T23 l0 x23_2).f0), .int .i64 ((rd_T23 l0 x23_2).f1), .int .i64 ((rd_T23 l0 x23_2).f2), .int .i64 0]) ?_ 3 _ rfl; (with_reducible repeat (first | refine blk_drewN ?_ _ | refine blk_drew ?_ | refine blk_alloc ?_ _)); refine blk_put (cs := #[.int .i64 ((rd_T23 l0 x23_2).f0), .int .i64 ((rd_T23 l0 x23_2).f1), .int .i64 0, .int .i64 0]) ?_ 2 _ rfl; (with_reducible repeat (first | refine blk_drewN ?_ _ | refine blk_drew ?_ | refine blk_alloc ?_ _)); refine blk_put (cs := #[.int .i64 ((rd_T23 l0 x23_2).f0), .int .i64 0, .int .i64 0, .int .i64 0]) ?_ 1 _ rfl; (with_reducible repeat (first | refine blk_drewN ?_ _ | refine blk_drew ?_ | refine blk_alloc ?_ _)); refine blk_put (cs := #[.int .i64 0, .int .i64 0, .int .i64 0, .int .i64 0]) ?_ 0 _ rfl; (with_reducible repeat (first | refine blk_drewN ?_ _ | refine blk_drew ?_ | refine blk_alloc ?_ _)); exact bK2.out) k_ hk⟩)); (case aO => exact (by (with_reducible repeat (first | apply Kd.R_alloc | apply Kd.R_drewN | apply Kd.R_drew)); exact Kd.R_mono (Kd.R_far (p := ⟨g2, 3, none⟩) (Kd.R_far (p := ⟨g2, 2, none⟩) (Kd.R_far (p := ⟨g2, 1, none⟩) (Kd.R_far (p := ⟨g2, 0, none⟩) (Kd.R_mono HO_6.out (fun k_ hk => (⟨hk, hk.2⟩ : _ ∧ k_ ≠ g2))) (fun _ hk => hk.2) (.int .i64 ((rd_T23 l0 x23_2).f0))) (fun _ hk => hk.2) (.int .i64 ((rd_T23 l0 x23_2).f1))) (fun _ hk => hk.2) (.int .i64 ((rd_T23 l0 x23_2).f2))) (fun _ hk => hk.2) (.int .i64 ((rd_T23 l0 x23_2).f3))) (fun _ hk => ⟨hk.1.1, hk.1.2⟩))); (case aS => exact (below_size (hbx HB))); (case aL => have := LMc14.out; omega); intro v709 w19 ho hb hg hat; rw [← Ny708.out] at ho; replace HO_3 := Aside0.mk (Kd.R_over' (by (with_reducible repeat (first | apply Kd.R_alloc | apply Kd.R_drewN | apply Kd.R_drew)); exact (Kd.R_mono (Kd.R_far (p := ⟨g2, 3, none⟩) (Kd.R_far (p := ⟨g2, 2, none⟩) (Kd.R_far (p := ⟨g2, 1, none⟩) (Kd.R_far (p := ⟨g2, 0, none⟩) (Kd.R_types HO_3.out bK2.out (by decide)) (fun _ hk => hk.2) (.int .i64 ((rd_T23 l0 x23_2).f0))) (fun _ hk => hk.2) (.int .i64 ((rd_T23 l0 x23_2).f1))) (fun _ hk => hk.2) (.int .i64 ((rd_T23 l0 x23_2).f2))) (fun _ hk => hk.2) (.int .i64 ((rd_T23 l0 x23_2).f3))) (fun _ h_ => h_.1))) (Kd.R_typed (by (with_reducible repeat (first | apply Kd.R_alloc | apply Kd.R_drewN | apply Kd.R_drew)); exact (Kd.R_mono (Kd.R_far (p := ⟨g2, 3, none⟩) (Kd.R_far (p := ⟨g2, 2, none⟩) (Kd.R_far (p := ⟨g2, 1, none⟩) (Kd.R_far (p := ⟨g2, 0, none⟩) (Kd.R_mono HO_6.out (fun k_ hk => (⟨hk, hk.2⟩ : _ ∧ k_ ≠ g2))) (fun _ hk => hk.2) (.int .i64 ((rd_T23 l0 x23_2).f0))) (fun _ hk => hk.2) (.int .i64 ((rd_T23 l0 x23_2).f1))) (fun _ hk => hk.2) (.int .i64 ((rd_T23 l0 x23_2).f2))) (fun _ hk => hk.2) (.int .i64 ((rd_T23 l0 x23_2).f3))) (fun _ h_ => h_.1)))) (by decide) hg); replace bK1 := Aside0.mk (blk_grown (g := g1) (o := .cells #[.int .i64 ((rd_T23 l0 x11_1).f0), .int .i64 ((rd_T23 l0 x11_1).f1), .int .i64 ((rd_T23 l0 x11_1).f2), .int .i64 ((rd_T23 l0 x11_1).f3)] 23 (0, 0)) (kfx bK1) hg (Kd.R_away HO_6.out (fun _ hk => hk.1))); replace bK2 := Aside0.mk (blk_grown (g := g2) (o := .cells #[.int .i64 ((rd_T23 l0 x23_2).f0), .int .i64 ((rd_T23 l0 x23_2).f1), .int .i64 ((rd_T23 l0 x23_2).f2), .int .i64 ((rd_T23 l0 x23_2).f3)] 23 (0, 0)) (by (with_reducible repeat (first | refine blk_drewN ?_ _ | refine blk_drew ?_ | refine blk_alloc ?_ _)); refine blk_put (cs := #[.int .i64 ((rd_T23 l0 x23_2).f0), .int .i64 ((rd_T23 l0 x23_2).f1), .int .i64 ((rd_T23 l0 x23_2).f2), .int .i64 0]) ?_ 3 _ rfl; (with_reducible repeat (first | refine blk_drewN ?_ _ | refine blk_drew ?_ | refine blk_alloc ?_ _)); refine blk_put (cs := #[.int .i64 ((rd_T23 l0 x23_2).f0), .int .i64 ((rd_T23 l0 x23_2).f1), .int .i64 0, .int .i64 0]) ?_ 2 _ rfl; (with_reducible repeat (first | refine blk_drewN ?_ _ | refine blk_drew ?_ | refine blk_alloc ?_ _)); refine blk_put (cs := #[.int .i64 ((rd_T23 l0 x23_2).f0), .int .i64 0, .int .i64 0, .int .i64 0]) ?_ 1 _ rfl; (with_reducible repeat (first | refine blk_drewN ?_ _ | refine blk_drew ?_ | refine blk_alloc ?_ _)); refine blk_put (cs := #[.int .i64 0, .int .i64 0, .int .i64 0, .int .i64 0]) ?_ 0 _ rfl; (with_reducible repeat (first | refine blk_drewN ?_ _ | refine blk_drew ?_ | refine blk_alloc ?_ _)); exact bK2.out) hg (Kd.R_away HO_6.out (fun _ hk => hk.2))); have HO710 := Aside0.mk (ho); replace HB := Aside0.mk (hb); clear HO_6; clear ho hb hg hat))
              go_roundg k2
              case measure => have := HK1.out; have := HK2.out; omega
              case rel => exact ⟨(y708), (wrap64 (x23_2 + 1)), re, H', ⟨by have := HK1.out; have := HK2.out; omega⟩, ⟨by (with_reducible repeat (first | apply Kd.R_alloc | apply Kd.R_drewN | apply Kd.R_drew)); exact HO_3.out⟩, ⟨by (with_reducible repeat (first | apply Kd.R_alloc | apply Kd.R_drewN | apply Kd.R_drew)); exact Kd.R_mono HO710.out (fun _ hk => hk.1)⟩, ⟨by (with_reducible repeat (first | refine blk_drewN ?_ _ | refine blk_drew ?_ | refine blk_alloc ?_ _)); exact bK1.out⟩, ⟨by repeat (first | (with_reducible first | exact HB.out | apply below_alloc | apply pw_below_drewN | apply below_drew1 | refine below_set ?_ bE1.out | refine below_set ?_ bE2.out) | exact HB.out)⟩⟩
             rw [if_neg c14] at H
             exact absurd H (by simp)
            rw [if_neg c13] at H
            have c13b0 : (!(((rd_T23 l0 x23_2).f0) == ((rd_T23 l0 x11_1).f0)) || (!(((rd_T23 l0 x23_2).f1) == ((rd_T23 l0 x11_1).f1)) || (!(((rd_T23 l0 x23_2).f2) == ((rd_T23 l0 x11_1).f2)) || (!(((rd_T23 l0 x23_2).f3) == ((rd_T23 l0 x11_1).f3)))))) = false := by simpa using c13
            clear c13
            have H' := Aside0.mk H
            clear H
            have p706 : 0 ≤ (x23_2 : Int) := dk
            have q706 : x23_2 < (l0.length : Int) := dk
            obtain ⟨ad706, e706, hx706_0, hx706_1, hx706_2, hx706_3⟩ := at_T23 HR0.out x23_2 p706 q706
            obtain rfl : ad703 = ad706 := (by injection e706)
            replace hx706_0 := hc HB hx706_0
            replace hx706_1 := hc HB hx706_1
            replace hx706_2 := hc HB hx706_2
            replace hx706_3 := hc HB hx706_3
            replace p706 := eq_true p706
            replace q706 := eq_true q706
            go_wp2_with (first | ((with_reducible refine gate_dst (N := 8) rfl ?_); refine box_event ?hg (N := 8) ?hd (cs := #[.int .i64 0, .int .i64 0, .int .i64 0, .int .i64 0]) (t := 23) ?hr ?_; (case hd => rfl); (case hg => rfl); (case hr => first | (go_simp; done) | (go_simp; rfl)); intro g2 hg w20 hbox hb; have n0_ := Aside0.mk (Kd.R_below (by (with_reducible repeat (first | apply Kd.R_alloc | apply Kd.R_drewN | apply Kd.R_drew)); exact HO_3.out) hb); have n1_ := Aside0.mk (Kd.R_below (Kd.R_elderB (by (with_reducible repeat (first | apply Kd.R_alloc | apply Kd.R_drewN | apply Kd.R_drew)); exact HO_6.out) g2 (Nat.le_of_eq hg.symm)) hb); have n2_ := kb bK1 hb; have n3_ := bt HB hb; have n4_ := Aside0.mk (hbox); have n5_ := gx hg HB; have n6_ := gx hg HB; have n7_ := nl hg bK1; have n8_ := nr hg bK1; clear HO_3; clear HO_6; clear bK1; clear HB; have HO_3 := n0_; have HO_6 := n1_; have bK1 := n2_; have HB := n3_; have bK2 := n4_; have bW2 := n5_; have bE2 := n6_; have bN1_2 := n7_; have bN2_1 := n8_; clear n0_ n1_ n2_ n3_ n4_ n5_ n6_ n7_ n8_; clear hb hbox hg; have hnb21 := bN2_1.out; have hnc21 := bN1_2.out; obtain ⟨hcz22_0, hcz22_1, hcz22_2, hcz22_3, hfz22_0, hfz22_1, hfz22_2, hfz22_3⟩ := cz4 bK2; obtain ⟨hcz23_0, hcz23_1, hcz23_2, hcz23_3, hfz23_0, hfz23_1, hfz23_2, hfz23_3⟩ := cz4 bK1))
            go_roundg k2
            case measure => have := HK1.out; have := HK2.out; omega
            case rel => exact ⟨(x6_2), (wrap64 (x23_2 + 1)), re, H', ⟨by have := HK1.out; have := HK2.out; omega⟩, ⟨by (with_reducible repeat (first | apply Kd.R_alloc | apply Kd.R_drewN | apply Kd.R_drew)); exact Kd.R_mono (Kd.R_far (p := ⟨g2, 3, none⟩) (Kd.R_far (p := ⟨g2, 2, none⟩) (Kd.R_far (p := ⟨g2, 1, none⟩) (Kd.R_far (p := ⟨g2, 0, none⟩) (Kd.R_types HO_3.out bK2.out (by decide)) (fun _ hk => hk.2) (.int .i64 ((rd_T23 l0 x23_2).f0))) (fun _ hk => hk.2) (.int .i64 ((rd_T23 l0 x23_2).f1))) (fun _ hk => hk.2) (.int .i64 ((rd_T23 l0 x23_2).f2))) (fun _ hk => hk.2) (.int .i64 ((rd_T23 l0 x23_2).f3))) (fun _ hk => trivial)⟩, ⟨by (with_reducible repeat (first | apply Kd.R_alloc | apply Kd.R_drewN | apply Kd.R_drew)); exact Kd.R_mono (Kd.R_far (p := ⟨g2, 3, none⟩) (Kd.R_far (p := ⟨g2, 2, none⟩) (Kd.R_far (p := ⟨g2, 1, none⟩) (Kd.R_far (p := ⟨g2, 0, none⟩) (Kd.R_mono HO_6.out (fun k_ hk => (⟨hk, hk.2⟩ : _ ∧ k_ ≠ g2))) (fun _ hk => hk.2) (.int .i64 ((rd_T23 l0 x23_2).f0))) (fun _ hk => hk.2) (.int .i64 ((rd_T23 l0 x23_2).f1))) (fun _ hk => hk.2) (.int .i64 ((rd_T23 l0 x23_2).f2))) (fun _ hk => hk.2) (.int .i64 ((rd_T23 l0 x23_2).f3))) (fun _ hk => hk.1.1)⟩, ⟨by (with_reducible repeat (first | refine blk_drewN ?_ _ | refine blk_drew ?_ | refine blk_alloc ?_ _)); refine blk_far ?_ bN1_2.out _; (with_reducible repeat (first | refine blk_drewN ?_ _ | refine blk_drew ?_ | refine blk_alloc ?_ _)); refine blk_far ?_ bN1_2.out _; (with_reducible repeat (first | refine blk_drewN ?_ _ | refine blk_drew ?_ | refine blk_alloc ?_ _)); refine blk_far ?_ bN1_2.out _; (with_reducible repeat (first | refine blk_drewN ?_ _ | refine blk_drew ?_ | refine blk_alloc ?_ _)); refine blk_far ?_ bN1_2.out _; (with_reducible repeat (first | refine blk_drewN ?_ _ | refine blk_drew ?_ | refine blk_alloc ?_ _)); exact bK1.out⟩, ⟨by repeat (first | (with_reducible first | exact HB.out | apply below_alloc | apply pw_below_drewN | apply below_drew1 | refine below_set ?_ bE1.out | refine below_set ?_ bE2.out) | exact HB.out)⟩⟩
           rw [if_neg c12] at H
           exact absurd H (by simp)
          rw [if_neg c11] at H
          exact absurd H (by simp)
         rw [if_neg c10] at H
         have c10b0 : decide (x23_2 < (l0.length : Int)) = false := decide_eq_false c10
         clear c10
         obtain ⟨⟨t711, t712, t713, t714⟩, A24, H⟩ := bi H
         dsimp only at H
         obtain ⟨t715, A25, H⟩ := bi H
         by_cases c26 : t715 = true
         ·subst c26
          have H1 : (if x3_1.length < 17592186044416 then (impl_needed.l0 k2 l0 (x3_1 ++ [x11_1]) l0 (l0.length : Int) (wrap64 (x11_1 + 1))) else (none)) = some r := by rw [if_pos rfl] at H; exact H
          clear H
          have H := H1
          clear H1
          by_cases c27 : x3_1.length < 17592186044416
          ·rw [if_pos c27] at H
           have LMc27 := Aside0.mk c27
           clear c27
           obtain ⟨y716, hy716⟩ : ∃ y_ : List Int, y_ = (x3_1 ++ [x11_1]) := ⟨_, rfl⟩
           replace H : (impl_needed.l0 k2 l0 y716 l0 (l0.length : Int) (wrap64 (x11_1 + 1))) = some r := by first | (rw [hy716]; with_reducible exact H) | (have H2_ := (Option.bind_some _ _).symm.trans H; rw [hy716]; with_reducible exact H2_) | (have H2_ := (Option.bind_some _ _).symm.trans H; with_reducible exact H2_) | with_reducible exact H | (rw [hy716]; exact H) | exact H
           have Ny716 := Aside0.mk hy716
           clear hy716
           have H' := Aside0.mk H
           clear H
           obtain ⟨hcz28_0, hcz28_1, hcz28_2, hcz28_3, hfz28_0, hfz28_1, hfz28_2, hfz28_3⟩ := cz4 bK1
           go_wp2_with (first | ((with_reducible refine gate_callee (f := 139) rfl ?_); refine gL 37 Try.func139 #[.agg #[.int .i64 ((rd_T23 l0 x11_1).f0), .int .i64 ((rd_T23 l0 x11_1).f1), .int .i64 ((rd_T23 l0 x11_1).f2), .int .i64 ((rd_T23 l0 x11_1).f3)]] ?_; (with_reducible refine (impl_flip.calls ((rd_T23 l0 x11_1).f0) ((rd_T23 l0 x11_1).f1) ((rd_T23 l0 x11_1).f2) ((rd_T23 l0 x11_1).f3) t711 t712 t713 t714 _ A24.out).mono ?_); rintro e w29 ⟨rfl, hb⟩; refine ⟨_, rfl, ?_⟩; replace HO_3 := Aside0.mk (Kd.R_below (by (with_reducible repeat (first | apply Kd.R_alloc | apply Kd.R_drewN | apply Kd.R_drew)); exact HO_3.out) hb); replace HO_6 := Aside0.mk (Kd.R_below (by (with_reducible repeat (first | apply Kd.R_alloc | apply Kd.R_drewN | apply Kd.R_drew)); exact HO_6.out) hb); replace bK1 := kb bK1 hb; replace HB := bt HB hb; (try clear hb); (try clear hb2); (try clear hk); (try clear hi); obtain ⟨Ao30, co30, eo30⟩ := Kd.R_slice HO_6.out; subst eo30) | ((with_reducible refine gate_callee (f := 137) rfl ?_); refine gL 38 Try.func137 #[.slice Ao30 x6_2.length co30, .agg #[.int .i64 t711, .int .i64 t712, .int .i64 t713, .int .i64 t714]] ?_; (with_reducible refine (impl_room.calls k2 _ _ x6_2 t711 t712 t713 t714 true _ ?side1 ?side2 A25.out).mono ?_); (case side1 => repeat (first | exact (Kd.R_reads' HO_6.out).2.2 | (with_reducible refine Kd.C_alloc ?_ _) | (with_reducible refine Kd.C_drewN ?_ _) | (with_reducible refine Kd.C_drew ?_))); (case side2 => exact (Kd.R_reads' HO_6.out).2.1); rintro e w31 ⟨rfl, hb⟩; refine ⟨_, rfl, ?_⟩; replace HO_3 := Aside0.mk (Kd.R_below (by (with_reducible repeat (first | apply Kd.R_alloc | apply Kd.R_drewN | apply Kd.R_drew)); exact HO_3.out) hb); replace HO_6 := Aside0.mk (Kd.R_below (by (with_reducible repeat (first | apply Kd.R_alloc | apply Kd.R_drewN | apply Kd.R_drew)); exact HO_6.out) hb); replace bK1 := kb bK1 hb; replace HB := bt HB hb; (try clear hb); (try clear hb2); (try clear hk); (try clear hi)) | ((with_reducible refine gate_builtin (b := .append) (xs := #[.tmp 39, .tmp 41]) rfl ?_); at_builtin; refine Kd.R_append (Kd.int .i64) (w0 := w) w.heap.size rfl (.tmp 39) (.tmp 41) 68 3 (.int .i64 0) 8 rfl Try.underlying68 info3 rfl (by decide) (by omega) u3 x3_1 x11_1 [.int .i64 x11_1] (fun _ => True) (fun _ => False) rfl rfl ?aP (fun _ hk => hk.elim) ?aF ?aO ?aB ?aS ?aL ?_; (case aP => exact rfl); (case aB => exact (hbx HB)); (case aF => exact (fun _ _ => trivial)); (case aO => exact (by (with_reducible repeat (first | apply Kd.R_alloc | apply Kd.R_drewN | apply Kd.R_drew)); exact HO_3.out)); (case aS => exact (below_size (hbx HB))); (case aL => have := LMc27.out; omega); intro v717 w32 ho hb hg hat; rw [← Ny716.out] at ho; replace HO_6 := Aside0.mk (Kd.R_over' (by (with_reducible repeat (first | apply Kd.R_alloc | apply Kd.R_drewN | apply Kd.R_drew)); exact HO_6.out) (Kd.R_typed (by (with_reducible repeat (first | apply Kd.R_alloc | apply Kd.R_drewN | apply Kd.R_drew)); exact HO_3.out)) (by decide) hg); replace bK1 := Aside0.mk (blk_grown (g := g1) (o := .cells #[.int .i64 ((rd_T23 l0 x11_1).f0), .int .i64 ((rd_T23 l0 x11_1).f1), .int .i64 ((rd_T23 l0 x11_1).f2), .int .i64 ((rd_T23 l0 x11_1).f3)] 23 (0, 0)) (kbx bK1) hg (Kd.R_ne HO_3.out bK1.out (by decide))); have HO718 := Aside0.mk (ho); replace HB := Aside0.mk (hb); clear HO_3; clear ho hb hg hat))
           go_roundg k2
           case measure => have := HK1.out; have := HK2.out; omega
           case rel => exact ⟨(y716), (wrap64 (x11_1 + 1)), re, H', ⟨by have := HK1.out; have := HK2.out; omega⟩, ⟨by (with_reducible repeat (first | apply Kd.R_alloc | apply Kd.R_drewN | apply Kd.R_drew)); exact HO718.out⟩, ⟨by repeat (first | (with_reducible first | exact HB.out | apply below_alloc | apply pw_below_drewN | apply below_drew1 | refine below_set ?_ bE1.out) | exact HB.out)⟩⟩
          rw [if_neg c27] at H
          exact absurd H (by simp)
         replace c26 := Bool.eq_false_iff.mpr c26
         subst c26
         have H1 : (impl_needed.l0 k2 l0 x3_1 l0 (l0.length : Int) (wrap64 (x11_1 + 1))) = some r := by rw [if_neg (show ¬ (false = true) by decide)] at H; exact H
         clear H
         have H := H1
         clear H1
         have H' := Aside0.mk H
         clear H
         obtain ⟨hcz33_0, hcz33_1, hcz33_2, hcz33_3, hfz33_0, hfz33_1, hfz33_2, hfz33_3⟩ := cz4 bK1
         go_wp2_with (first | ((with_reducible refine gate_callee (f := 139) rfl ?_); refine gL 37 Try.func139 #[.agg #[.int .i64 ((rd_T23 l0 x11_1).f0), .int .i64 ((rd_T23 l0 x11_1).f1), .int .i64 ((rd_T23 l0 x11_1).f2), .int .i64 ((rd_T23 l0 x11_1).f3)]] ?_; (with_reducible refine (impl_flip.calls ((rd_T23 l0 x11_1).f0) ((rd_T23 l0 x11_1).f1) ((rd_T23 l0 x11_1).f2) ((rd_T23 l0 x11_1).f3) t711 t712 t713 t714 _ A24.out).mono ?_); rintro e w34 ⟨rfl, hb⟩; refine ⟨_, rfl, ?_⟩; replace HO_3 := Aside0.mk (Kd.R_below (by (with_reducible repeat (first | apply Kd.R_alloc | apply Kd.R_drewN | apply Kd.R_drew)); exact HO_3.out) hb); replace HO_6 := Aside0.mk (Kd.R_below (by (with_reducible repeat (first | apply Kd.R_alloc | apply Kd.R_drewN | apply Kd.R_drew)); exact HO_6.out) hb); replace bK1 := kb bK1 hb; replace HB := bt HB hb; (try clear hb); (try clear hb2); (try clear hk); (try clear hi); obtain ⟨Ao35, co35, eo35⟩ := Kd.R_slice HO_6.out; subst eo35) | ((with_reducible refine gate_callee (f := 137) rfl ?_); refine gL 38 Try.func137 #[.slice Ao35 x6_2.length co35, .agg #[.int .i64 t711, .int .i64 t712, .int .i64 t713, .int .i64 t714]] ?_; (with_reducible refine (impl_room.calls k2 _ _ x6_2 t711 t712 t713 t714 false _ ?side1 ?side2 A25.out).mono ?_); (case side1 => repeat (first | exact (Kd.R_reads' HO_6.out).2.2 | (with_reducible refine Kd.C_alloc ?_ _) | (with_reducible refine Kd.C_drewN ?_ _) | (with_reducible refine Kd.C_drew ?_))); (case side2 => exact (Kd.R_reads' HO_6.out).2.1); rintro e w36 ⟨rfl, hb⟩; refine ⟨_, rfl, ?_⟩; replace HO_3 := Aside0.mk (Kd.R_below (by (with_reducible repeat (first | apply Kd.R_alloc | apply Kd.R_drewN | apply Kd.R_drew)); exact HO_3.out) hb); replace HO_6 := Aside0.mk (Kd.R_below (by (with_reducible repeat (first | apply Kd.R_alloc | apply Kd.R_drewN | apply Kd.R_drew)); exact HO_6.out) hb); replace bK1 := kb bK1 hb; replace HB := bt HB hb; (try clear hb); (try clear hb2); (try clear hk); (try clear hi)))
         go_roundg k2
         case measure => have := HK1.out; have := HK2.out; omega
         case rel => exact ⟨(x3_1), (wrap64 (x11_1 + 1)), re, H', ⟨by have := HK1.out; have := HK2.out; omega⟩, ⟨by (with_reducible repeat (first | apply Kd.R_alloc | apply Kd.R_drewN | apply Kd.R_drew)); exact HO_3.out⟩, ⟨by repeat (first | (with_reducible first | exact HB.out | apply below_alloc | apply pw_below_drewN | apply below_drew1 | refine below_set ?_ bE1.out) | exact HB.out)⟩⟩
      rw [if_neg c6] at H
      have c6b0 : (t705 == x11_1) = false := beq_eq_false_iff_ne.mpr c6
      have c6b1 : (t705 != x11_1) = true := bne_iff_ne.mpr c6
      have H' := Aside0.mk H
      clear H
      have p703 : 0 ≤ (x11_1 : Int) := dk
      have q703 : x11_1 < (l0.length : Int) := dk
      obtain ⟨ad703, e703, hx703_0, hx703_1, hx703_2, hx703_3⟩ := at_T23 HR0.out x11_1 p703 q703
      cases e703
      replace hx703_0 := hc HB hx703_0
      replace hx703_1 := hc HB hx703_1
      replace hx703_2 := hc HB hx703_2
      replace hx703_3 := hc HB hx703_3
      replace p703 := eq_true p703
      replace q703 := eq_true q703
      go_wp2_with (first | ((with_reducible refine gate_dst (N := 5) rfl ?_); refine box_event ?hg (N := 5) ?hd (cs := #[.int .i64 0, .int .i64 0, .int .i64 0, .int .i64 0]) (t := 23) ?hr ?_; (case hd => rfl); (case hg => rfl); (case hr => first | (go_simp; done) | (go_simp; rfl)); intro g1 hg w37 hbox hb; replace HO_3 := Aside0.mk (Kd.R_below (by (with_reducible repeat (first | apply Kd.R_alloc | apply Kd.R_drewN | apply Kd.R_drew)); exact HO_3.out) hb); have bK1 := Aside0.mk (hbox); have bW1 := gx hg HB; have bE1 := gx hg HB; replace HB := bt HB hb; clear hb hbox hg; obtain ⟨hcz38_0, hcz38_1, hcz38_2, hcz38_3, hfz38_0, hfz38_1, hfz38_2, hfz38_3⟩ := cz4 bK1) | ((with_reducible refine gate_callee (f := 151) rfl ?_); refine gL 18 Try.func151 #[.slice (some ad703) l0.length c0, .agg #[.int .i64 ((rd_T23 l0 x11_1).f0), .int .i64 ((rd_T23 l0 x11_1).f1), .int .i64 ((rd_T23 l0 x11_1).f2), .int .i64 ((rd_T23 l0 x11_1).f3)]] ?_; (with_reducible refine (impl_Plane.calls k1 _ _ l0 ((rd_T23 l0 x11_1).f0) ((rd_T23 l0 x11_1).f1) ((rd_T23 l0 x11_1).f2) ((rd_T23 l0 x11_1).f3) t705 _ ?side1 ?side2 A5.out).mono ?_); (case side1 => exact Kd.C_below HR0.out (hbx HB)); (case side2 => exact HC0.out); rintro e w39 ⟨rfl, hb⟩; refine ⟨_, rfl, ?_⟩; replace HO_3 := Aside0.mk (Kd.R_below (by (with_reducible repeat (first | apply Kd.R_alloc | apply Kd.R_drewN | apply Kd.R_drew)); exact (Kd.R_mono (Kd.R_far (p := ⟨g1, 3, none⟩) (Kd.R_far (p := ⟨g1, 2, none⟩) (Kd.R_far (p := ⟨g1, 1, none⟩) (Kd.R_far (p := ⟨g1, 0, none⟩) (Kd.R_types HO_3.out bK1.out (by decide)) (fun _ hk => hk.2) (.int .i64 ((rd_T23 l0 x11_1).f0))) (fun _ hk => hk.2) (.int .i64 ((rd_T23 l0 x11_1).f1))) (fun _ hk => hk.2) (.int .i64 ((rd_T23 l0 x11_1).f2))) (fun _ hk => hk.2) (.int .i64 ((rd_T23 l0 x11_1).f3))) (fun _ h_ => h_.1))) hb); replace bK1 := kp #[.int .i64 ((rd_T23 l0 x11_1).f0), .int .i64 ((rd_T23 l0 x11_1).f1), .int .i64 ((rd_T23 l0 x11_1).f2), .int .i64 ((rd_T23 l0 x11_1).f3)] bK1 hb; replace HB := bt HB hb; (try clear hb); (try clear hb2); (try clear hk); (try clear hi)))
      go_roundg k1
      case measure => have := HK1.out; omega
      case rel => exact ⟨(x3_1), (wrap64 (x11_1 + 1)), re, H', ⟨by have := HK1.out; omega⟩, ⟨by (with_reducible repeat (first | apply Kd.R_alloc | apply Kd.R_drewN | apply Kd.R_drew)); exact HO_3.out⟩, ⟨by repeat (first | (with_reducible first | exact HB.out | apply below_alloc | apply pw_below_drewN | apply below_drew1 | refine below_set ?_ bE1.out) | exact HB.out)⟩⟩
     rw [if_neg c4] at H
     exact absurd H (by simp)
    rw [if_neg c3] at H
    exact absurd H (by simp)
   rw [if_neg c2] at H
   have c2b0 : decide (x11_1 < (l0.length : Int)) = false := decide_eq_false c2
   clear c2
   obtain rfl := Option.some.inj H
   go_wp2
   go_ret
   exact ⟨_, by first | rfl | (simp [errW_none, errW_some] <;> rfl) | (simp [*, errW_none, errW_some] <;> rfl), by (with_reducible repeat (first | apply Kd.R_alloc | apply Kd.R_drewN | apply Kd.R_drew)); exact HO_3.out, by repeat (first | (with_reducible first | exact HB.out | apply below_alloc | apply pw_below_drewN | apply below_drew1) | exact HB.out)⟩

/-! ### impl_Needed: function 59 -/
def impl_Needed.f (k : Nat) (l0 : List (S23)) : Option (List Int) := (impl_Open.f k l0).bind fun t719 => (if t719 = true then ((impl_needed.f k l0).bind fun t720 => (some t720)) else (some ([] : List Int)))
theorem impl_Needed.mono : ∀ a0 k, LeO (impl_Needed.f k a0) (impl_Needed.f (k + 1) a0) := by
 intro a0 k
 unfold impl_Needed.f
 repeat' first
   | (with_reducible exact impl_Open.mono _ _)
   | (with_reducible exact impl_needed.mono _ _)
   | (with_reducible exact LeO.refl _)
   | (with_reducible exact LeO.none _)
   | (with_reducible refine LeO.ite ?_ ?_)
   | (with_reducible refine LeO.bind ?_ (fun _ => ?_))
   | exact impl_Open.mono _ _
   | exact impl_needed.mono _ _
   | exact LeO.none _
   | refine LeO.ite ?_ ?_
   | refine LeO.bind ?_ (fun _ => ?_)
set_option maxHeartbeats 8000000 in
set_option maxRecDepth 100000 in
theorem impl_Needed.calls (k : Nat) (A0 : Option Addr) (c0 : Nat) (l0 : List (S23)) (r : List Int) (w : World) (hr0 : Kd.C k23 w A0 l0.length l0) (hc0 : l0.length ≤ c0) (h : impl_Needed.f k l0 = some r) :
  Calls Try.prog 59 #[.slice A0 l0.length c0] w fun e w' => ∃ v0_ : Value, e = .returned (v0_) ∧ Kd.R (Kd.int .i64) 3 w' w.heap.size (fun _ => True) v0_ r ∧ Below w.heap.size w w' := by
 have HR0 := Aside0.mk hr0
 have HC0 := Aside0.mk hc0
 clear hr0 hc0
 have HB := Aside0.mk (Below.refl w.heap.size w)
 have H : ((impl_Open.f k l0).bind fun t719 => (if t719 = true then ((impl_needed.f k l0).bind fun t720 => (some t720)) else (some ([] : List Int)))) = some r := h
 clear h
 obtain ⟨t719, A2, H⟩ := bi H
 by_cases c3 : t719 = true
 ·subst c3
  have H1 : ((impl_needed.f k l0).bind fun t720 => (some t720)) = some r := by rw [if_pos rfl] at H; exact H
  clear H
  have H := H1
  clear H1
  obtain ⟨t720, A4, H⟩ := bi H
  obtain rfl := Option.some.inj H
  go_enter Try.func59, Try.ntmps59
  go_wp2_with (first | ((with_reducible refine gate_callee (f := 41) rfl ?_); refine gL 4 Try.func41 #[.slice A0 l0.length c0] ?_; (with_reducible refine (impl_Open.calls k _ _ l0 true _ ?side1 ?side2 A2.out).mono ?_); (case side1 => repeat (first | exact HR0.out | (with_reducible refine Kd.C_alloc ?_ _) | (with_reducible refine Kd.C_drewN ?_ _) | (with_reducible refine Kd.C_drew ?_))); (case side2 => exact HC0.out); rintro e w5 ⟨rfl, hb⟩; refine ⟨_, rfl, ?_⟩; replace HB := bt HB hb; (try clear hb); (try clear hb2); (try clear hk); (try clear hi)) | ((with_reducible refine gate_callee (f := 113) rfl ?_); refine gL 7 Try.func113 #[.slice A0 l0.length c0] ?_; (with_reducible refine (impl_needed.calls k _ _ l0 t720 _ ?side1 ?side2 A4.out).mono ?_); (case side1 => repeat (first | exact (Kd.C_below HR0.out HB.out) | (with_reducible refine Kd.C_alloc ?_ _) | (with_reducible refine Kd.C_drewN ?_ _) | (with_reducible refine Kd.C_drew ?_))); (case side2 => exact HC0.out); rintro e w6 ⟨v721, rfl, ho0, hb⟩; refine ⟨_, rfl, ?_⟩; have HO722 := Aside0.mk (Kd.R_lower ho0 (below_size (hbx HB))); replace HB := bt HB hb; (try clear hb); (try clear hb2); (try clear hk); (try clear hi); (try clear ho0)))
  go_ret
  exact ⟨_, by first | rfl | (simp [errW_none, errW_some] <;> rfl) | (simp [*, errW_none, errW_some] <;> rfl), by (with_reducible repeat (first | apply Kd.R_alloc | apply Kd.R_drewN | apply Kd.R_drew)); exact HO722.out, by repeat (first | (with_reducible first | exact HB.out | apply below_alloc | apply pw_below_drewN | apply below_drew1) | exact HB.out)⟩
 replace c3 := Bool.eq_false_iff.mpr c3
 subst c3
 have H1 : (some ([] : List Int)) = some r := by rw [if_neg (show ¬ (false = true) by decide)] at H; exact H
 clear H
 have H := H1
 clear H1
 obtain rfl := Option.some.inj H
 go_enter Try.func59, Try.ntmps59
 go_wp2_with (first | ((with_reducible refine gate_callee (f := 41) rfl ?_); refine gL 4 Try.func41 #[.slice A0 l0.length c0] ?_; (with_reducible refine (impl_Open.calls k _ _ l0 false _ ?side1 ?side2 A2.out).mono ?_); (case side1 => repeat (first | exact HR0.out | (with_reducible refine Kd.C_alloc ?_ _) | (with_reducible refine Kd.C_drewN ?_ _) | (with_reducible refine Kd.C_drew ?_))); (case side2 => exact HC0.out); rintro e w7 ⟨rfl, hb⟩; refine ⟨_, rfl, ?_⟩; replace HB := bt HB hb; (try clear hb); (try clear hb2); (try clear hk); (try clear hi)))
 go_ret
 exact ⟨_, by first | rfl | (simp [errW_none, errW_some] <;> rfl) | (simp [*, errW_none, errW_some] <;> rfl), by first | exact Kd.R_nil _ _ _ _ _ | exact Kd.N_nil _ _ _ _ _ | exact Kd.V_nil _ _ _ _ _ | exact Kd.Q_nil _ _ _ _ _ | exact Kd.S_nil _ _ _ _ _, by repeat (first | (with_reducible first | exact HB.out | apply below_alloc | apply pw_below_drewN | apply below_drew1) | exact HB.out)⟩

/-! ### laws_eqIntS: function 60 -/
def laws_eqIntS.l0 : Nat → List Int → List Int → Int → Option (Bool)
 | 0, _, _, _ => none
 | k + 1, x0, x1, x5 => if x5 < (x0.length : Int) then (if 0 ≤ x5 then (if x5 < (x1.length : Int) then (if (rd x0 x5) = (rd x1 x5) then (laws_eqIntS.l0 k x0 x1 (wrap64 (x5 + 1))) else (some false)) else (none)) else (none)) else (some true)
def laws_eqIntS.f (k : Nat) (l0 : List Int) (l1 : List Int) : Option (Bool) := if (l0.length : Int) = (l1.length : Int) then (laws_eqIntS.l0 k l0 l1 0) else (some false)
theorem laws_eqIntS.mono_l : ∀ k, (∀ y0 y1 y2, LeO (laws_eqIntS.l0 k y0 y1 y2) (laws_eqIntS.l0 (k + 1) y0 y1 y2))
 | 0 => fun _ _ _ r h => by simp [laws_eqIntS.l0] at h
 | k + 1 => by
  have ih0 := laws_eqIntS.mono_l k
  intro y0 y1 y2
  unfold laws_eqIntS.l0
  repeat' first
  | (with_reducible exact ih0 _ _ _)
  | (with_reducible exact LeO.refl _)
  | (with_reducible exact LeO.none _)
  | (with_reducible refine LeO.ite ?_ ?_)
  | (with_reducible refine LeO.bind ?_ (fun _ => ?_))
  | exact ih0 _ _ _
  | exact LeO.none _
  | refine LeO.ite ?_ ?_
  | refine LeO.bind ?_ (fun _ => ?_)
theorem laws_eqIntS.mono : ∀ a0 a1 k, LeO (laws_eqIntS.f k a0 a1) (laws_eqIntS.f (k + 1) a0 a1) := by
 intro a0 a1 k
 have ih0 := laws_eqIntS.mono_l k
 unfold laws_eqIntS.f
 repeat' first
   | (with_reducible exact ih0 _ _ _)
   | (with_reducible exact LeO.refl _)
   | (with_reducible exact LeO.none _)
   | (with_reducible refine LeO.ite ?_ ?_)
   | (with_reducible refine LeO.bind ?_ (fun _ => ?_))
   | exact ih0 _ _ _
   | exact LeO.none _
   | refine LeO.ite ?_ ?_
   | refine LeO.bind ?_ (fun _ => ?_)
set_option maxHeartbeats 8000000 in
set_option maxRecDepth 100000 in
theorem laws_eqIntS.calls (k : Nat) (A0 : Option Addr) (c0 : Nat) (l0 : List Int) (A1 : Option Addr) (c1 : Nat) (l1 : List Int) (r : Bool) (w : World) (hr0 : Kd.C (Kd.int .i64) w A0 l0.length l0) (hc0 : l0.length ≤ c0) (hr1 : Kd.C (Kd.int .i64) w A1 l1.length l1) (hc1 : l1.length ≤ c1) (h : laws_eqIntS.f k l0 l1 = some r) :
  Calls Try.prog 60 #[.slice A0 l0.length c0, .slice A1 l1.length c1] w fun e w' => e = .returned (.bool r) ∧ Drawn0 w w' := by
 have HR0 := Aside0.mk hr0
 have HC0 := Aside0.mk hc0
 clear hr0 hc0
 have HR1 := Aside0.mk hr1
 have HC1 := Aside0.mk hc1
 clear hr1 hc1
 have H : (if (l0.length : Int) = (l1.length : Int) then (laws_eqIntS.l0 k l0 l1 0) else (some false)) = some r := h
 clear h
 by_cases c3 : (l0.length : Int) = (l1.length : Int)
 ·rw [if_pos c3] at H
  have c3b0 : ((l0.length : Int) == (l1.length : Int)) = true := beq_iff_eq.mpr c3
  have c3b1 : ((l0.length : Int) != (l1.length : Int)) = false := bne_eq_false_iff_eq.mpr c3
  have c3b2 : (l0.length == l1.length) = true := by first | simpa using c3 | (simp at c3 ⊢; omega)
  clear c3
  have H' := Aside0.mk H
  clear H
  go_enter Try.func60, Try.ntmps60
  go_wp2
  repeat (go_quiet (fail); try go_wp2)
  go_loopg [5] k (fun kq v5 w' => ∃ (x5_1 : Int), v5 = .int .i64 x5_1 ∧ Aside0 (laws_eqIntS.l0 kq l0 l1 x5_1 = some r) ∧ Aside0 (kq ≤ k) ∧ Drawn0 w w')
  case atStart => exact ⟨(0), re, H', ⟨Nat.le_refl _⟩, by repeat (first | exact Drawn0.refl _ | apply Drawn0.step)⟩
  case round =>
   clear H'
   obtain ⟨x5_1, rfl, HA, HK1, ⟨m1, rfl⟩⟩ := hrel
   cases gk with
   | zero => exact absurd HA.out (by simp [laws_eqIntS.l0])
   | succ k1 =>
    have H := HA.out
    clear HA
    simp only [laws_eqIntS.l0] at H
    by_cases c4 : x5_1 < (l0.length : Int)
    ·rw [if_pos c4] at H
     have c4b0 : decide (x5_1 < (l0.length : Int)) = true := decide_eq_true c4
     clear c4
     by_cases c5 : 0 ≤ x5_1
     ·rw [if_pos c5] at H
      have c5b0 : decide (0 ≤ x5_1) = true := decide_eq_true c5
      clear c5
      by_cases c6 : x5_1 < (l1.length : Int)
      ·rw [if_pos c6] at H
       have c6b0 : decide (x5_1 < (l1.length : Int)) = true := decide_eq_true c6
       clear c6
       by_cases c7 : (rd l0 x5_1) = (rd l1 x5_1)
       ·rw [if_pos c7] at H
        have c7b0 : ((rd l0 x5_1) == (rd l1 x5_1)) = true := beq_iff_eq.mpr c7
        have c7b1 : ((rd l0 x5_1) != (rd l1 x5_1)) = false := bne_eq_false_iff_eq.mpr c7
        clear c7
        have H' := Aside0.mk H
        clear H
        have p723 : 0 ≤ (x5_1 : Int) := dk
        have q723 : x5_1 < (l0.length : Int) := dk
        obtain ⟨ad723, e723, hx723_0⟩ := Kd.at_int HR0.out x5_1 p723 q723
        cases e723
        replace p723 := eq_true p723
        replace q723 := eq_true q723
        have p724 : 0 ≤ (x5_1 : Int) := dk
        have q724 : x5_1 < (l1.length : Int) := dk
        obtain ⟨ad724, e724, hx724_0⟩ := Kd.at_int HR1.out x5_1 p724 q724
        cases e724
        replace p724 := eq_true p724
        replace q724 := eq_true q724
        go_wp2
        repeat (go_quiet (fail); try go_wp2)
        go_roundg k1
        case measure => have := HK1.out; omega
        case rel => exact ⟨(wrap64 (x5_1 + 1)), re, H', ⟨by have := HK1.out; omega⟩, by repeat (first | exact Drawn0.refl _ | apply Drawn0.step)⟩
       rw [if_neg c7] at H
       have c7b0 : ((rd l0 x5_1) == (rd l1 x5_1)) = false := beq_eq_false_iff_ne.mpr c7
       have c7b1 : ((rd l0 x5_1) != (rd l1 x5_1)) = true := bne_iff_ne.mpr c7
       obtain rfl := Option.some.inj H
       have p723 : 0 ≤ (x5_1 : Int) := dk
       have q723 : x5_1 < (l0.length : Int) := dk
       obtain ⟨ad723, e723, hx723_0⟩ := Kd.at_int HR0.out x5_1 p723 q723
       cases e723
       replace p723 := eq_true p723
       replace q723 := eq_true q723
       have p724 : 0 ≤ (x5_1 : Int) := dk
       have q724 : x5_1 < (l1.length : Int) := dk
       obtain ⟨ad724, e724, hx724_0⟩ := Kd.at_int HR1.out x5_1 p724 q724
       cases e724
       replace p724 := eq_true p724
       replace q724 := eq_true q724
       go_wp2
       repeat (go_quiet (fail); try go_wp2)
       go_ret
       exact ⟨by first | rfl | (simp; done) | (simp [*]; done) | (simp [wrap64]; done), by repeat (first | exact Drawn0.refl _ | apply Drawn0.step)⟩
      rw [if_neg c6] at H
      exact absurd H (by simp)
     rw [if_neg c5] at H
     exact absurd H (by simp)
    rw [if_neg c4] at H
    have c4b0 : decide (x5_1 < (l0.length : Int)) = false := decide_eq_false c4
    clear c4
    obtain rfl := Option.some.inj H
    go_wp2
    repeat (go_quiet (fail); try go_wp2)
    go_ret
    exact ⟨by first | rfl | (simp; done) | (simp [*]; done) | (simp [wrap64]; done), by repeat (first | exact Drawn0.refl _ | apply Drawn0.step)⟩
 rw [if_neg c3] at H
 have c3b0 : ((l0.length : Int) == (l1.length : Int)) = false := beq_eq_false_iff_ne.mpr c3
 have c3b1 : ((l0.length : Int) != (l1.length : Int)) = true := bne_iff_ne.mpr c3
 have c3b2 : (l0.length == l1.length) = false := by first | simpa using c3 | (simp at c3 ⊢; omega)
 obtain rfl := Option.some.inj H
 go_enter Try.func60, Try.ntmps60
 go_wp2
 repeat (go_quiet (fail); try go_wp2)
 go_ret
 exact ⟨by first | rfl | (simp; done) | (simp [*]; done) | (simp [wrap64]; done), by repeat (first | exact Drawn0.refl _ | apply Drawn0.step)⟩

end Go.Proofs.Ytndedincanmaeaa.Print
