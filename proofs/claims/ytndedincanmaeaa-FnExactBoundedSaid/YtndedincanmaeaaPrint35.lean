-- Printed by a program of the session (mkprinter.py, over the kit's print); Lean checks it.
import Derived.Test.YtndedincanmaeaaCp
import Derived.Test.YtndedincanmaeaaPrint0
import Derived.Test.YtndedincanmaeaaPrint2
import Derived.Test.YtndedincanmaeaaPrint11
import Derived.Test.YtndedincanmaeaaPrint33
import Derived.Test.YtndedincanmaeaaPrint34
namespace Go.Proofs.Ytndedincanmaeaa.Print
open Go.RowKit Go.Proofs.YtndedincanmaeaaW.PrintWords Go.Proofs.YtndedincanmaeaaW.PrintLast Go.Proofs.Ytndedincanmaeaa.Cp
set_option linter.unusedVariables false
set_option linter.unusedSimpArgs false

attribute [local go_sem high] eqA128
/-! ### impl_bounded: function 111 -/
mutual
def impl_bounded.l0 : Nat → List (S23) → List (S23) → Int → Int → Option (Bool)
 | 0, _, _, _, _ => none
 | k + 1, x0, x11, x12, x13 => if x13 < x12 then (if 0 ≤ x13 then (if x13 < (x11.length : Int) then (if x13 ≤ (x0.length : Int) then ((some (x0.take (x13 : Int).toNat : List (S23))).bind fun y640 => (impl_bounded.l1 k x0 x11 x12 x13 y640 (y640.length : Int) 0 ((rd_T23 x11 x13).f0) ((rd_T23 x11 x13).f1) ((rd_T23 x11 x13).f2) ((rd_T23 x11 x13).f3))) else (none)) else (none)) else (none)) else (some true)
def impl_bounded.l1 : Nat → List (S23) → List (S23) → Int → Int → List (S23) → Int → Int → Int → Int → Int → Int → Option (Bool)
 | 0, _, _, _, _, _, _, _, _, _, _, _ => none
 | k + 1, x0, x11, x12, x13, x20, x21, x22, x640000, x640001, x640002, x640003 => if x22 < x21 then (if 0 ≤ x22 then (if x22 < (x20.length : Int) then ((impl_normal.f x640000 x640001 x640002 x640003).bind fun bt646 => ((impl_normal.f ((rd_T23 x20 x22).f0) ((rd_T23 x20 x22).f1) ((rd_T23 x20 x22).f2) ((rd_T23 x20 x22).f3)).bind fun bt649 => ((impl_crossOf.f bt646.1 bt646.2.1 bt646.2.2 bt649.1 bt649.2.1 bt649.2.2).bind fun bt652 => (if (bt652.1 == 0 && (bt652.2.1 == 0 && (bt652.2.2 == 0))) = true then (impl_bounded.l1 k x0 x11 x12 x13 x20 x21 (wrap64 (x22 + 1)) x640000 x640001 x640002 x640003) else ((impl_goesOn.f k x0 bt652.1 bt652.2.1 bt652.2.2).bind fun t656 => (if t656 = true then (impl_bounded.j2 k x0 x11 x12 x13 x20 x21 x22 true x640000 x640001 x640002 x640003) else ((impl_goesOn.f k x0 (wrap64 (-bt652.1)) (wrap64 (-bt652.2.1)) (wrap64 (-bt652.2.2))).bind fun t657 => (impl_bounded.j2 k x0 x11 x12 x13 x20 x21 x22 t657 x640000 x640001 x640002 x640003)))))))) else (none)) else (none)) else (impl_bounded.l0 k x0 x11 x12 (wrap64 (x13 + 1)))
def impl_bounded.j2 : Nat → List (S23) → List (S23) → Int → Int → List (S23) → Int → Int → Bool → Int → Int → Int → Int → Option (Bool)
 | 0, _, _, _, _, _, _, _, _, _, _, _, _ => none
 | k + 1, x0, x11, x12, x13, x20, x21, x22, x50, x640000, x640001, x640002, x640003 => if x50 = true then (some false) else (impl_bounded.l1 k x0 x11 x12 x13 x20 x21 (wrap64 (x22 + 1)) x640000 x640001 x640002 x640003)
end
def impl_bounded.f (k : Nat) (l0 : List (S23)) : Option (Bool) := (impl_Rank.f k l0).bind fun t637 => (if t637 < 3 then (some false) else (impl_bounded.l0 k l0 l0 (l0.length : Int) 0))
theorem impl_bounded.mono_l : ∀ k, (∀ y0 y1 y2 y3, LeO (impl_bounded.l0 k y0 y1 y2 y3) (impl_bounded.l0 (k + 1) y0 y1 y2 y3)) ∧ (∀ y0 y1 y2 y3 y4 y5 y6 y7 y8 y9 y10, LeO (impl_bounded.l1 k y0 y1 y2 y3 y4 y5 y6 y7 y8 y9 y10) (impl_bounded.l1 (k + 1) y0 y1 y2 y3 y4 y5 y6 y7 y8 y9 y10)) ∧ (∀ y0 y1 y2 y3 y4 y5 y6 y7 y8 y9 y10 y11, LeO (impl_bounded.j2 k y0 y1 y2 y3 y4 y5 y6 y7 y8 y9 y10 y11) (impl_bounded.j2 (k + 1) y0 y1 y2 y3 y4 y5 y6 y7 y8 y9 y10 y11))
 | 0 => ⟨fun _ _ _ _ r h => by simp [impl_bounded.l0] at h, fun _ _ _ _ _ _ _ _ _ _ _ r h => by simp [impl_bounded.l1] at h, fun _ _ _ _ _ _ _ _ _ _ _ _ r h => by simp [impl_bounded.j2] at h⟩
 | k + 1 => by
  obtain ⟨ih0, ih1, ih2⟩ := impl_bounded.mono_l k
  refine ⟨?_, ?_, ?_⟩
  ·intro y0 y1 y2 y3
   unfold impl_bounded.l0
   repeat' first
   | (with_reducible exact ih0 _ _ _ _)
   | (with_reducible exact ih1 _ _ _ _ _ _ _ _ _ _ _)
   | (with_reducible exact ih2 _ _ _ _ _ _ _ _ _ _ _ _)
   | (with_reducible exact impl_Rank.mono _ _)
   | (with_reducible exact impl_goesOn.mono _ _ _ _ _)
   | (with_reducible exact LeO.refl _)
   | (with_reducible exact LeO.none _)
   | (with_reducible refine LeO.ite ?_ ?_)
   | (with_reducible refine LeO.bind ?_ (fun _ => ?_))
   | exact ih0 _ _ _ _
   | exact ih1 _ _ _ _ _ _ _ _ _ _ _
   | exact ih2 _ _ _ _ _ _ _ _ _ _ _ _
   | exact impl_Rank.mono _ _
   | exact impl_goesOn.mono _ _ _ _ _
   | exact LeO.none _
   | refine LeO.ite ?_ ?_
   | refine LeO.bind ?_ (fun _ => ?_)
  ·intro y0 y1 y2 y3 y4 y5 y6 y7 y8 y9 y10
   unfold impl_bounded.l1
   repeat' first
   | (with_reducible exact ih0 _ _ _ _)
   | (with_reducible exact ih1 _ _ _ _ _ _ _ _ _ _ _)
   | (with_reducible exact ih2 _ _ _ _ _ _ _ _ _ _ _ _)
   | (with_reducible exact impl_Rank.mono _ _)
   | (with_reducible exact impl_goesOn.mono _ _ _ _ _)
   | (with_reducible exact LeO.refl _)
   | (with_reducible exact LeO.none _)
   | (with_reducible refine LeO.ite ?_ ?_)
   | (with_reducible refine LeO.bind ?_ (fun _ => ?_))
   | exact ih0 _ _ _ _
   | exact ih1 _ _ _ _ _ _ _ _ _ _ _
   | exact ih2 _ _ _ _ _ _ _ _ _ _ _ _
   | exact impl_Rank.mono _ _
   | exact impl_goesOn.mono _ _ _ _ _
   | exact LeO.none _
   | refine LeO.ite ?_ ?_
   | refine LeO.bind ?_ (fun _ => ?_)
  intro y0 y1 y2 y3 y4 y5 y6 y7 y8 y9 y10 y11
  unfold impl_bounded.j2
  repeat' first
  | (with_reducible exact ih0 _ _ _ _)
  | (with_reducible exact ih1 _ _ _ _ _ _ _ _ _ _ _)
  | (with_reducible exact ih2 _ _ _ _ _ _ _ _ _ _ _ _)
  | (with_reducible exact impl_Rank.mono _ _)
  | (with_reducible exact impl_goesOn.mono _ _ _ _ _)
  | (with_reducible exact LeO.refl _)
  | (with_reducible exact LeO.none _)
  | (with_reducible refine LeO.ite ?_ ?_)
  | (with_reducible refine LeO.bind ?_ (fun _ => ?_))
  | exact ih0 _ _ _ _
  | exact ih1 _ _ _ _ _ _ _ _ _ _ _
  | exact ih2 _ _ _ _ _ _ _ _ _ _ _ _
  | exact impl_Rank.mono _ _
  | exact impl_goesOn.mono _ _ _ _ _
  | exact LeO.none _
  | refine LeO.ite ?_ ?_
  | refine LeO.bind ?_ (fun _ => ?_)
theorem impl_bounded.mono : ∀ a0 k, LeO (impl_bounded.f k a0) (impl_bounded.f (k + 1) a0) := by
 intro a0 k
 obtain ⟨ih0, ih1, ih2⟩ := impl_bounded.mono_l k
 unfold impl_bounded.f
 repeat' first
   | (with_reducible exact ih0 _ _ _ _)
   | (with_reducible exact ih1 _ _ _ _ _ _ _ _ _ _ _)
   | (with_reducible exact ih2 _ _ _ _ _ _ _ _ _ _ _ _)
   | (with_reducible exact impl_Rank.mono _ _)
   | (with_reducible exact impl_goesOn.mono _ _ _ _ _)
   | (with_reducible exact LeO.refl _)
   | (with_reducible exact LeO.none _)
   | (with_reducible refine LeO.ite ?_ ?_)
   | (with_reducible refine LeO.bind ?_ (fun _ => ?_))
   | exact ih0 _ _ _ _
   | exact ih1 _ _ _ _ _ _ _ _ _ _ _
   | exact ih2 _ _ _ _ _ _ _ _ _ _ _ _
   | exact impl_Rank.mono _ _
   | exact impl_goesOn.mono _ _ _ _ _
   | exact LeO.none _
   | refine LeO.ite ?_ ?_
   | refine LeO.bind ?_ (fun _ => ?_)
def impl_bounded.T9 : Bool × List (List Nat × List Nat) := (true, [([], []), ([0], [0]), ([], []), ([2, 1], [2]), ([1, 3, 3], [1, 3]), ([], []), ([5, 4, 4, 0, 1, 2, 3, 4, 5], [4, 5])])
def impl_bounded.B9 : List Nat := [0, 1, 0, 7, 15, 0, 63]
theorem impl_bounded.tab9 : rtab .any (opsOf Try.f111 9) = impl_bounded.T9 := by kernel_rfl
theorem impl_bounded.bits9 : waitsOk impl_bounded.T9.2 impl_bounded.B9 = true := by kernel_rfl
set_option maxHeartbeats 8000000 in
set_option maxRecDepth 100000 in
theorem impl_bounded.calls (k : Nat) (A0 : Option Addr) (c0 : Nat) (l0 : List (S23)) (r : Bool) (w : World) (hr0 : Kd.C k23 w A0 l0.length l0) (hc0 : l0.length ≤ c0) (h : impl_bounded.f k l0 = some r) :
  Calls Try.prog 111 #[.slice A0 l0.length c0] w fun e w' => e = .returned (.bool r) ∧ Below w.heap.size w w' := by
 have hu23 := Try.underlying23
 have hu128 := Try.underlying128
 have HR0 := Aside0.mk hr0
 have HC0 := Aside0.mk hc0
 clear hr0 hc0
 have HB := Aside0.mk (Below.refl w.heap.size w)
 have H : ((impl_Rank.f k l0).bind fun t637 => (if t637 < 3 then (some false) else (impl_bounded.l0 k l0 l0 (l0.length : Int) 0))) = some r := h
 clear h
 obtain ⟨t637, A2, H⟩ := bi H
 by_cases c3 : t637 < 3
 ·rw [if_pos c3] at H
  have c3b0 : decide (t637 < 3) = true := decide_eq_true c3
  clear c3
  obtain rfl := Option.some.inj H
  go_enter Try.func111, Try.ntmps111
  go_wp2_with (first | ((with_reducible refine gate_callee (f := 147) rfl ?_); refine gL 9 Try.func147 #[.slice A0 l0.length c0] ?_; (with_reducible refine (impl_Rank.calls k _ _ l0 t637 _ ?side1 ?side2 A2.out).mono ?_); (case side1 => repeat (first | exact HR0.out | (with_reducible refine Kd.C_alloc ?_ _) | (with_reducible refine Kd.C_drewN ?_ _) | (with_reducible refine Kd.C_drew ?_))); (case side2 => exact HC0.out); rintro e w4 ⟨rfl, hb⟩; refine ⟨_, rfl, ?_⟩; replace HB := bt HB hb; (try clear hb); (try clear hb2); (try clear hk); (try clear hi)))
  go_ret
  exact fin HB
 rw [if_neg c3] at H
 have c3b0 : decide (t637 < 3) = false := decide_eq_false c3
 clear c3
 have H' := Aside0.mk H
 clear H
 go_enter Try.func111, Try.ntmps111
 go_wp2_with (first | ((with_reducible refine gate_callee (f := 147) rfl ?_); refine gL 9 Try.func147 #[.slice A0 l0.length c0] ?_; (with_reducible refine (impl_Rank.calls k _ _ l0 t637 _ ?side1 ?side2 A2.out).mono ?_); (case side1 => repeat (first | exact HR0.out | (with_reducible refine Kd.C_alloc ?_ _) | (with_reducible refine Kd.C_drewN ?_ _) | (with_reducible refine Kd.C_drew ?_))); (case side2 => exact HC0.out); rintro e w5 ⟨rfl, hb⟩; refine ⟨_, rfl, ?_⟩; replace HB := bt HB hb; (try clear hb); (try clear hb2); (try clear hk); (try clear hi)))
 go_loopg [13] k (fun kq v13 w' => ∃ (x13_1 : Int), v13 = .int .i64 x13_1 ∧ Aside0 (impl_bounded.l0 kq l0 l0 (l0.length : Int) x13_1 = some r) ∧ Aside0 (kq ≤ k) ∧ Aside0 (Below w.heap.size w w'))
 case atStart => exact ⟨(0), re, H', ⟨Nat.le_refl _⟩, ⟨by repeat (first | (with_reducible first | exact HB.out | apply below_alloc | apply pw_below_drewN | apply below_drew1) | exact HB.out)⟩⟩
 case round =>
  clear H'
  obtain ⟨x13_1, rfl, HA, HK1, HB⟩ := hrel
  cases gk with
  | zero => exact absurd HA.out (by simp [impl_bounded.l0])
  | succ k1 =>
   have H := HA.out
   clear HA
   simp only [impl_bounded.l0] at H
   by_cases c6 : x13_1 < (l0.length : Int)
   ·rw [if_pos c6] at H
    have c6b0 : decide (x13_1 < (l0.length : Int)) = true := decide_eq_true c6
    clear c6
    by_cases c7 : 0 ≤ x13_1
    ·rw [if_pos c7] at H
     have c7b0 : decide (0 ≤ x13_1) = true := decide_eq_true c7
     clear c7
     by_cases c8 : x13_1 < (l0.length : Int)
     ·rw [if_pos c8] at H
      have c8b0 : decide (x13_1 < (l0.length : Int)) = true := decide_eq_true c8
      clear c8
      have c9b0 := eq_true (dk : 0 ≤ x13_1)
      by_cases c10 : x13_1 ≤ (l0.length : Int)
      ·rw [if_pos c10] at H
       have c10b0 := eq_true c10
       have c10b1 : decide (x13_1 ≤ (l0.length : Int)) = true := decide_eq_true c10
       clear c10
       obtain ⟨y640, hy640⟩ : ∃ y_ : List (S23), y_ = (l0.take (x13_1 : Int).toNat) := ⟨_, rfl⟩
       replace H : (impl_bounded.l1 k1 l0 l0 (l0.length : Int) x13_1 y640 (y640.length : Int) 0 ((rd_T23 l0 x13_1).f0) ((rd_T23 l0 x13_1).f1) ((rd_T23 l0 x13_1).f2) ((rd_T23 l0 x13_1).f3)) = some r := by first | (rw [hy640]; with_reducible exact H) | (have H2_ := (Option.bind_some _ _).symm.trans H; rw [hy640]; with_reducible exact H2_) | (have H2_ := (Option.bind_some _ _).symm.trans H; with_reducible exact H2_) | with_reducible exact H | (rw [hy640]; exact H) | exact H
       have Ny640 := Aside0.mk hy640
       clear hy640
       have H' := Aside0.mk H
       clear H
       have p638 : 0 ≤ (x13_1 : Int) := dk
       have q638 : x13_1 < (l0.length : Int) := dk
       obtain ⟨ad638, e638, hx638_0, hx638_1, hx638_2, hx638_3⟩ := at_T23 HR0.out x13_1 p638 q638
       cases e638
       replace hx638_0 := hc HB hx638_0
       replace hx638_1 := hc HB hx638_1
       replace hx638_2 := hc HB hx638_2
       replace hx638_3 := hc HB hx638_3
       replace p638 := eq_true p638
       replace q638 := eq_true q638
       go_wp2_with (first | ((with_reducible refine gate_dst (N := 4) rfl ?_); refine box_event ?hg (N := 4) ?hd (cs := #[.int .i64 0, .int .i64 0, .int .i64 0, .int .i64 0]) (t := 23) ?hr ?_; (case hd => rfl); (case hg => rfl); (case hr => first | (go_simp; done) | (go_simp; rfl)); intro g1 hg w11 hbox hb; have bK1 := Aside0.mk (hbox); have bW1 := gx hg HB; have bE1 := gx hg HB; replace HB := bt HB hb; clear hb hbox hg; obtain ⟨hcz12_0, hcz12_1, hcz12_2, hcz12_3, hfz12_0, hfz12_1, hfz12_2, hfz12_3⟩ := cz4 bK1) | ((with_reducible refine gate_store (t := 23) (p := 4) rfl ?_); refine store_event (t := 23) (p := 4) (v := ?vo_w13) (w1 := ((((w11.setCell ⟨g1, 0, none⟩ (.int .i64 ((rd_T23 l0 x13_1).f0))).setCell ⟨g1, 1, none⟩ (.int .i64 ((rd_T23 l0 x13_1).f1))).setCell ⟨g1, 2, none⟩ (.int .i64 ((rd_T23 l0 x13_1).f2))).setCell ⟨g1, 3, none⟩ (.int .i64 ((rd_T23 l0 x13_1).f3)))) ?hg ?ho ?hn ?hr ?_; (case ho => rfl); (case hg => rfl); (case hn => rfl); (case hr => first | (go_simp; done) | (go_simp; rfl)); intro w13 hw; replace bK1 : Aside0 (w13.heap[g1]? = some (.cells #[.int .i64 ((rd_T23 l0 x13_1).f0), .int .i64 ((rd_T23 l0 x13_1).f1), .int .i64 ((rd_T23 l0 x13_1).f2), .int .i64 ((rd_T23 l0 x13_1).f3)] 23 (0, 0))) := ⟨(by rw [hw]; exact (by (with_reducible repeat (first | refine blk_drewN ?_ _ | refine blk_drew ?_ | refine blk_alloc ?_ _)); refine blk_put (cs := #[.int .i64 ((rd_T23 l0 x13_1).f0), .int .i64 ((rd_T23 l0 x13_1).f1), .int .i64 ((rd_T23 l0 x13_1).f2), .int .i64 0]) ?_ 3 _ rfl; (with_reducible repeat (first | refine blk_drewN ?_ _ | refine blk_drew ?_ | refine blk_alloc ?_ _)); refine blk_put (cs := #[.int .i64 ((rd_T23 l0 x13_1).f0), .int .i64 ((rd_T23 l0 x13_1).f1), .int .i64 0, .int .i64 0]) ?_ 2 _ rfl; (with_reducible repeat (first | refine blk_drewN ?_ _ | refine blk_drew ?_ | refine blk_alloc ?_ _)); refine blk_put (cs := #[.int .i64 ((rd_T23 l0 x13_1).f0), .int .i64 0, .int .i64 0, .int .i64 0]) ?_ 1 _ rfl; (with_reducible repeat (first | refine blk_drewN ?_ _ | refine blk_drew ?_ | refine blk_alloc ?_ _)); refine blk_put (cs := #[.int .i64 0, .int .i64 0, .int .i64 0, .int .i64 0]) ?_ 0 _ rfl; (with_reducible repeat (first | refine blk_drewN ?_ _ | refine blk_drew ?_ | refine blk_alloc ?_ _)); exact bK1.out))⟩; replace HB : Aside0 (Below w.heap.size w w13) := ⟨(by rw [hw]; exact (hbx HB))⟩; clear hw; have q14 : (x13_1 : Int) ≤ ((l0.length : Int) : Int) := dk; obtain ⟨i014, hi014, _, hsz14, _⟩ := info_parts info23; have hroom14 : l0.length ≤ c0 := HC0.out; have hC14 : Kd.C k23 _ (some ad638) l0.length l0 := HR0.out; have hcut14 := cut_to (P := Try.prog) 53 23 .i64 Try.underlying53 hi014 (some ad638) l0.length c0 x13_1 (dk) q14 hroom14; have hr14 := Kd.C_take (m := (x13_1 : Int).toNat) hC14 (by omega); have hy14 : y640.length = (x13_1 : Int).toNat := (by rw [Ny640.out, List.length_take]; omega); rw [← Ny640.out] at hr14; rw [← hy14] at hcut14; have HR643 := Aside0.mk hr14; have HC643 := Aside0.mk (show y640.length ≤ c0 from by omega); clear hr14 hC14 hroom14 hi014 hsz14; have KY14 := Aside0.mk hy14; clear hy14; replace q14 := eq_true q14))
       go_loopg [22] k1 (fun kq v22 w' => ∃ (x22_2 : Int), v22 = .int .i64 x22_2 ∧ Aside0 (impl_bounded.l1 kq l0 l0 (l0.length : Int) x13_1 y640 (y640.length : Int) x22_2 ((rd_T23 l0 x13_1).f0) ((rd_T23 l0 x13_1).f1) ((rd_T23 l0 x13_1).f2) ((rd_T23 l0 x13_1).f3) = some r) ∧ Aside0 (kq ≤ k1) ∧ Aside0 (w'.heap[g1]? = some (.cells #[.int .i64 ((rd_T23 l0 x13_1).f0), .int .i64 ((rd_T23 l0 x13_1).f1), .int .i64 ((rd_T23 l0 x13_1).f2), .int .i64 ((rd_T23 l0 x13_1).f3)] 23 (0, 0))) ∧ Aside0 (Below w.heap.size w w'))
       case atStart => exact ⟨(0), re, H', ⟨Nat.le_refl _⟩, ⟨by (with_reducible repeat (first | refine blk_drewN ?_ _ | refine blk_drew ?_ | refine blk_alloc ?_ _)); exact bK1.out⟩, ⟨by repeat (first | (with_reducible first | exact HB.out | apply below_alloc | apply pw_below_drewN | apply below_drew1 | refine below_set ?_ bE1.out) | exact HB.out)⟩⟩
       case round =>
        clear H'
        obtain ⟨x22_2, rfl, HA, HK2, bK1, HB⟩ := hrel
        cases gk with
        | zero => exact absurd HA.out (by simp [impl_bounded.l1])
        | succ k2 =>
         have H := HA.out
         clear HA
         simp only [impl_bounded.l1] at H
         by_cases c15 : x22_2 < (y640.length : Int)
         ·rw [if_pos c15] at H
          have c15b0 : decide (x22_2 < (y640.length : Int)) = true := decide_eq_true c15
          clear c15
          by_cases c16 : 0 ≤ x22_2
          ·rw [if_pos c16] at H
           have c16b0 : decide (0 ≤ x22_2) = true := decide_eq_true c16
           clear c16
           by_cases c17 : x22_2 < (y640.length : Int)
           ·rw [if_pos c17] at H
            have c17b0 : decide (x22_2 < (y640.length : Int)) = true := decide_eq_true c17
            clear c17
            obtain ⟨⟨t646, t647, t648⟩, A18, H⟩ := bi H
            dsimp only at H
            obtain ⟨⟨t649, t650, t651⟩, A19, H⟩ := bi H
            dsimp only at H
            obtain ⟨⟨t652, t653, t654⟩, A20, H⟩ := bi H
            dsimp only at H
            by_cases c21 : (t652 == 0 && (t653 == 0 && (t654 == 0))) = true
            ·rw [if_pos c21] at H
             have c21b0 : (t652 == 0 && (t653 == 0 && (t654 == 0))) = true := c21
             (try (have c21b1 : decide (t652 = 0 && (t653 == 0 && (t654 == 0))) = true := by simpa using c21))
             (try (have c21b2 : (t652 == 0 && (t653 == 0 && (t654 == 0))) = true := by simpa using c21))
             clear c21
             have H' := Aside0.mk H
             clear H
             have p644 : 0 ≤ (x22_2 : Int) := dk
             have q644 : x22_2 < (y640.length : Int) := dk
             obtain ⟨ad644, e644, hx644_0, hx644_1, hx644_2, hx644_3⟩ := at_T23 HR643.out x22_2 p644 q644
             obtain rfl : ad638 = ad644 := (by injection e644)
             replace hx644_0 := hc HB hx644_0
             replace hx644_1 := hc HB hx644_1
             replace hx644_2 := hc HB hx644_2
             replace hx644_3 := hc HB hx644_3
             replace p644 := eq_true p644
             replace q644 := eq_true q644
             try go_wp2_with (first | ((with_reducible refine gate_dst (N := 6) rfl ?_); refine box_event ?hg (N := 6) ?hd (cs := #[.int .i64 0, .int .i64 0, .int .i64 0, .int .i64 0]) (t := 23) ?hr ?_; (case hd => rfl); (case hg => rfl); (case hr => first | (go_simp; done) | (go_simp; rfl)); intro g2 hg w22 hbox hb; have n0_ := kb bK1 hb; have n1_ := bt HB hb; have n2_ := Aside0.mk (hbox); have n3_ := gx hg HB; have n4_ := gx hg HB; have n5_ := nl hg bK1; have n6_ := nr hg bK1; clear bK1; clear HB; have bK1 := n0_; have HB := n1_; have bK2 := n2_; have bW2 := n3_; have bE2 := n4_; have bN1_2 := n5_; have bN2_1 := n6_; clear n0_ n1_ n2_ n3_ n4_ n5_ n6_; clear hb hbox hg; have hnb23 := bN2_1.out; have hnc23 := bN1_2.out; obtain ⟨hcz24_0, hcz24_1, hcz24_2, hcz24_3, hfz24_0, hfz24_1, hfz24_2, hfz24_3⟩ := cz4 bK2))
             have n0_ : Aside0 (((((w22.setCell ⟨g2, 0, none⟩ (.int .i64 ((rd_T23 y640 x22_2).f0))).setCell ⟨g2, 1, none⟩ (.int .i64 ((rd_T23 y640 x22_2).f1))).setCell ⟨g2, 2, none⟩ (.int .i64 ((rd_T23 y640 x22_2).f2))).setCell ⟨g2, 3, none⟩ (.int .i64 ((rd_T23 y640 x22_2).f3))).heap[g1]? = some (.cells #[.int .i64 ((rd_T23 l0 x13_1).f0), .int .i64 ((rd_T23 l0 x13_1).f1), .int .i64 ((rd_T23 l0 x13_1).f2), .int .i64 ((rd_T23 l0 x13_1).f3)] 23 (0, 0))) := ⟨by (with_reducible repeat (first | refine blk_drewN ?_ _ | refine blk_drew ?_ | refine blk_alloc ?_ _)); refine blk_far ?_ bN1_2.out _; (with_reducible repeat (first | refine blk_drewN ?_ _ | refine blk_drew ?_ | refine blk_alloc ?_ _)); refine blk_far ?_ bN1_2.out _; (with_reducible repeat (first | refine blk_drewN ?_ _ | refine blk_drew ?_ | refine blk_alloc ?_ _)); refine blk_far ?_ bN1_2.out _; (with_reducible repeat (first | refine blk_drewN ?_ _ | refine blk_drew ?_ | refine blk_alloc ?_ _)); refine blk_far ?_ bN1_2.out _; (with_reducible repeat (first | refine blk_drewN ?_ _ | refine blk_drew ?_ | refine blk_alloc ?_ _)); exact bK1.out⟩
             have n1_ : Aside0 (((((w22.setCell ⟨g2, 0, none⟩ (.int .i64 ((rd_T23 y640 x22_2).f0))).setCell ⟨g2, 1, none⟩ (.int .i64 ((rd_T23 y640 x22_2).f1))).setCell ⟨g2, 2, none⟩ (.int .i64 ((rd_T23 y640 x22_2).f2))).setCell ⟨g2, 3, none⟩ (.int .i64 ((rd_T23 y640 x22_2).f3))).heap[g2]? = some (.cells #[.int .i64 ((rd_T23 y640 x22_2).f0), .int .i64 ((rd_T23 y640 x22_2).f1), .int .i64 ((rd_T23 y640 x22_2).f2), .int .i64 ((rd_T23 y640 x22_2).f3)] 23 (0, 0))) := ⟨by (with_reducible repeat (first | refine blk_drewN ?_ _ | refine blk_drew ?_ | refine blk_alloc ?_ _)); refine blk_put (cs := #[.int .i64 ((rd_T23 y640 x22_2).f0), .int .i64 ((rd_T23 y640 x22_2).f1), .int .i64 ((rd_T23 y640 x22_2).f2), .int .i64 0]) ?_ 3 _ rfl; (with_reducible repeat (first | refine blk_drewN ?_ _ | refine blk_drew ?_ | refine blk_alloc ?_ _)); refine blk_put (cs := #[.int .i64 ((rd_T23 y640 x22_2).f0), .int .i64 ((rd_T23 y640 x22_2).f1), .int .i64 0, .int .i64 0]) ?_ 2 _ rfl; (with_reducible repeat (first | refine blk_drewN ?_ _ | refine blk_drew ?_ | refine blk_alloc ?_ _)); refine blk_put (cs := #[.int .i64 ((rd_T23 y640 x22_2).f0), .int .i64 0, .int .i64 0, .int .i64 0]) ?_ 1 _ rfl; (with_reducible repeat (first | refine blk_drewN ?_ _ | refine blk_drew ?_ | refine blk_alloc ?_ _)); refine blk_put (cs := #[.int .i64 0, .int .i64 0, .int .i64 0, .int .i64 0]) ?_ 0 _ rfl; (with_reducible repeat (first | refine blk_drewN ?_ _ | refine blk_drew ?_ | refine blk_alloc ?_ _)); exact bK2.out⟩
             have n2_ : Aside0 (Below w.heap.size w ((((w22.setCell ⟨g2, 0, none⟩ (.int .i64 ((rd_T23 y640 x22_2).f0))).setCell ⟨g2, 1, none⟩ (.int .i64 ((rd_T23 y640 x22_2).f1))).setCell ⟨g2, 2, none⟩ (.int .i64 ((rd_T23 y640 x22_2).f2))).setCell ⟨g2, 3, none⟩ (.int .i64 ((rd_T23 y640 x22_2).f3)))) := ⟨by repeat (first | (with_reducible first | exact HB.out | apply below_alloc | apply pw_below_drewN | apply below_drew1 | refine below_set ?_ bE1.out | refine below_set ?_ bE2.out) | exact HB.out)⟩
             (try clear bK1)
             (try clear bK2)
             (try clear HB)
             generalize ((((w22.setCell ⟨g2, 0, none⟩ (.int .i64 ((rd_T23 y640 x22_2).f0))).setCell ⟨g2, 1, none⟩ (.int .i64 ((rd_T23 y640 x22_2).f1))).setCell ⟨g2, 2, none⟩ (.int .i64 ((rd_T23 y640 x22_2).f2))).setCell ⟨g2, 3, none⟩ (.int .i64 ((rd_T23 y640 x22_2).f3))) = w25 at n0_ n1_ n2_ ⊢
             have bK1 := n0_
             have bK2 := n1_
             have HB := n2_
             clear n0_ n1_ n2_
             replace bK1 := Aside0.mk (blk_drew bK1.out)
             replace bK2 := Aside0.mk (blk_drew bK2.out)
             replace HB := Aside0.mk (below_drew1 HB.out)
             refine start_ (n := 7) (S := fun w' => True) (ds := []) (bl 7 0) (by kernel_rfl) rfl rfl trivial (fun hHeld => ?_); refine with_tabW impl_bounded.tab9 impl_bounded.bits9 (fun HT_ HW_ => ?_)
             generalize w25.drew = w26 at bK1 bK2 HB hHeld ⊢
             refine inv_at [0, 1, 2, 3, 4, 5, 6] (fun a0_ b a w' => ∃ (g3 : Nat) (m5_ : Value), a = putSel a0_ b [(0, 26, .agg #[.int .i64 ((rd_T23 l0 x13_1).f0), .int .i64 ((rd_T23 l0 x13_1).f1), .int .i64 ((rd_T23 l0 x13_1).f2), .int .i64 ((rd_T23 l0 x13_1).f3)]), (1, 27, .agg #[.int .i64 t646, .int .i64 t647, .int .i64 t648]), (2, 28, .agg #[.int .i64 ((rd_T23 y640 x22_2).f0), .int .i64 ((rd_T23 y640 x22_2).f1), .int .i64 ((rd_T23 y640 x22_2).f2), .int .i64 ((rd_T23 y640 x22_2).f3)]), (3, 29, .agg #[.int .i64 t649, .int .i64 t650, .int .i64 t651]), (4, 30, .agg #[.int .i64 t652, .int .i64 t653, .int .i64 t654]), (5, 7, m5_)] ∧ (w'.heap[g1]? = some (.cells #[.int .i64 ((rd_T23 l0 x13_1).f0), .int .i64 ((rd_T23 l0 x13_1).f1), .int .i64 ((rd_T23 l0 x13_1).f2), .int .i64 ((rd_T23 l0 x13_1).f3)] 23 (0, 0))) ∧ (w'.heap[g2]? = some (.cells #[.int .i64 ((rd_T23 y640 x22_2).f0), .int .i64 ((rd_T23 y640 x22_2).f1), .int .i64 ((rd_T23 y640 x22_2).f2), .int .i64 ((rd_T23 y640 x22_2).f3)] 23 (0, 0))) ∧ (Below w.heap.size w w') ∧ (b 5 = true → b 6 = false → w'.heap[g3]? = some (.cells #[.int .i64 0, .int .i64 0, .int .i64 0] 128 (0, 0))) ∧ (b 5 = true → w.heap.size ≤ g3) ∧ (b 5 = true → w.heap.size ≤ g3) ∧ (b 5 = true → g1 ≠ g3) ∧ (b 5 = true → g3 ≠ g1) ∧ (b 5 = true → g2 ≠ g3) ∧ (b 5 = true → g3 ≠ g2) ∧ (b 6 = true → w'.heap[g3]? = some (.cells #[.int .i64 t652, .int .i64 t653, .int .i64 t654] 128 (0, 0))) ∧ (b 5 = true → (m5_ : Value) = .pointer (some ⟨g3, 0, none⟩))) HT_.out HW_.out (by kernel_rfl) (by kernel_rfl) ?_ ?_ ?_
             ·exact ⟨0, .bool false, by simp only [putSel, Bool.false_eq_true, if_false], bK1.out, bK2.out, HB.out, fun h_ => absurd h_ (by decide), fun h_ => absurd h_ (by decide), fun h_ => absurd h_ (by decide), fun h_ => absurd h_ (by decide), fun h_ => absurd h_ (by decide), fun h_ => absurd h_ (by decide), fun h_ => absurd h_ (by decide), fun h_ => absurd h_ (by decide), fun h_ => absurd h_ (by decide)⟩
             ·skip
              clear bK1 bK2 HB
              refine steps_cons ?_ ?_
              ·rintro b a w' ⟨g3, m5_, ha, qK1, qK2, Q_HB, qK3, qW3, qE3, qN1_3, qN3_1, qN2_3, qN3_2, qK3_e6, Q_X5_⟩ hb_ hon hoff
               refine ⟨_, rfl, fun K hK => ?_⟩
               have e4 : a.tmps[4]? = some (.pointer (some ⟨g1, 0, none⟩)) := by rw [ha]; exact (putSel_off rfl).trans rfl
               replace ha := Aside0.mk ha
               have bK1 := Aside0.mk qK1
               have bK2 := Aside0.mk qK2
               have HB := Aside0.mk Q_HB
               have hc0_ : w'.cell? ⟨g1, 0, none⟩ = some (.int .i64 ((rd_T23 l0 x13_1).f0)) := (blk_cell bK1.out 0).trans rfl
               have hc1_ : w'.cell? ⟨g1, 1, none⟩ = some (.int .i64 ((rd_T23 l0 x13_1).f1)) := (blk_cell bK1.out 1).trans rfl
               have hc2_ : w'.cell? ⟨g1, 2, none⟩ = some (.int .i64 ((rd_T23 l0 x13_1).f2)) := (blk_cell bK1.out 2).trans rfl
               have hc3_ : w'.cell? ⟨g1, 3, none⟩ = some (.int .i64 ((rd_T23 l0 x13_1).f3)) := (blk_cell bK1.out 3).trans rfl
               refine value_ (w1 := w') (v := .agg #[.int .i64 ((rd_T23 l0 x13_1).f0), .int .i64 ((rd_T23 l0 x13_1).f1), .int .i64 ((rd_T23 l0 x13_1).f2), .int .i64 ((rd_T23 l0 x13_1).f3)]) (by rfl) rfl ?_ ?_
               ·go_simp
                (try simp only [i64_w])
                try rfl
               refine hK.out _ _ ⟨g3, m5_, (by rw [ha.out]; exact putSel_upk 0 hb_ rfl rfl rfl), qK1, qK2, Q_HB, qK3, qW3, qE3, qN1_3, qN3_1, qN2_3, qN3_2, fun h0_ => absurd ((hoff 6 (by kernel_rfl)).symm.trans h0_) (by decide), Q_X5_⟩
              refine steps_cons ?_ ?_
              ·rintro b a w' ⟨g3, m5_, ha, qK1, qK2, Q_HB, qK3, qW3, qE3, qN1_3, qN3_1, qN2_3, qN3_2, qK3_e6, Q_X5_⟩ hb_ hon hoff
               refine ⟨_, rfl, fun K hK => ?_⟩
               have e26 : a.tmps[26]? = some (.agg #[.int .i64 ((rd_T23 l0 x13_1).f0), .int .i64 ((rd_T23 l0 x13_1).f1), .int .i64 ((rd_T23 l0 x13_1).f2), .int .i64 ((rd_T23 l0 x13_1).f3)]) := by rw [ha]; exact putSel_on (e := (0, 26, .agg #[.int .i64 ((rd_T23 l0 x13_1).f0), .int .i64 ((rd_T23 l0 x13_1).f1), .int .i64 ((rd_T23 l0 x13_1).f2), .int .i64 ((rd_T23 l0 x13_1).f3)])) 0 rfl rfl (hon 0 (by kernel_rfl)) rfl
               replace ha := Aside0.mk ha
               have bK1 := Aside0.mk qK1
               have bK2 := Aside0.mk qK2
               have HB := Aside0.mk Q_HB
               refine goes_ Try.func149 (by kernel_rfl) rfl #[.agg #[.int .i64 ((rd_T23 l0 x13_1).f0), .int .i64 ((rd_T23 l0 x13_1).f1), .int .i64 ((rd_T23 l0 x13_1).f2), .int .i64 ((rd_T23 l0 x13_1).f3)]] (by rfl) rfl rfl (by first | (simp only [List.map_toArray, List.map_cons, List.map_nil, Act.eval, Array.getD_eq_getD_getElem?, Option.getD_some, e26]; done) | (simp only [List.map_toArray, List.map_cons, List.map_nil, Act.eval, Array.getD_eq_getD_getElem?, Option.getD_some, e26]; rfl)) ?_
               with_reducible refine (impl_normal.calls ((rd_T23 l0 x13_1).f0) ((rd_T23 l0 x13_1).f1) ((rd_T23 l0 x13_1).f2) ((rd_T23 l0 x13_1).f3) t646 t647 t648 _ A18.out).mono ?_
               rintro e w27 ⟨rfl, hb⟩
               refine ⟨_, rfl, ?_⟩
               have n0_ := kb bK1 hb
               have n1_ := kb bK2 hb
               have n2_ := bt HB hb
               have zK3 := fun (h0_ : b 5 = true) (h1_ : b 6 = false) => (show w27.heap[g3]? = some (.cells #[.int .i64 0, .int .i64 0, .int .i64 0] 128 (0, 0)) from by first | exact (blk_below (g := g3) (o := .cells #[.int .i64 0, .int .i64 0, .int .i64 0] 128 (0, 0)) (by (with_reducible repeat (first | refine blk_drewN ?_ _ | refine blk_drew ?_ | refine blk_alloc ?_ _)); exact (qK3 h0_ h1_)) hb))
               clear bK1
               clear bK2
               clear HB
               have bK1 := n0_
               have bK2 := n1_
               have HB := n2_
               clear n0_ n1_ n2_
               (try clear hb)
               (try clear hb2)
               (try clear hk)
               (try clear hi)
               refine hK.out _ _ ⟨g3, m5_, (by rw [ha.out]; exact putSel_upk 1 hb_ rfl rfl rfl), (kbx bK1), (kbx bK2), (hbx HB), zK3, qW3, qE3, qN1_3, qN3_1, qN2_3, qN3_2, fun h0_ => absurd ((hoff 6 (by kernel_rfl)).symm.trans h0_) (by decide), Q_X5_⟩
              refine steps_cons ?_ ?_
              ·rintro b a w' ⟨g3, m5_, ha, qK1, qK2, Q_HB, qK3, qW3, qE3, qN1_3, qN3_1, qN2_3, qN3_2, qK3_e6, Q_X5_⟩ hb_ hon hoff
               refine ⟨_, rfl, fun K hK => ?_⟩
               have e6 : a.tmps[6]? = some (.pointer (some ⟨g2, 0, none⟩)) := by rw [ha]; exact (putSel_off rfl).trans rfl
               replace ha := Aside0.mk ha
               have bK1 := Aside0.mk qK1
               have bK2 := Aside0.mk qK2
               have HB := Aside0.mk Q_HB
               have hc0_ : w'.cell? ⟨g2, 0, none⟩ = some (.int .i64 ((rd_T23 y640 x22_2).f0)) := (blk_cell bK2.out 0).trans rfl
               have hc1_ : w'.cell? ⟨g2, 1, none⟩ = some (.int .i64 ((rd_T23 y640 x22_2).f1)) := (blk_cell bK2.out 1).trans rfl
               have hc2_ : w'.cell? ⟨g2, 2, none⟩ = some (.int .i64 ((rd_T23 y640 x22_2).f2)) := (blk_cell bK2.out 2).trans rfl
               have hc3_ : w'.cell? ⟨g2, 3, none⟩ = some (.int .i64 ((rd_T23 y640 x22_2).f3)) := (blk_cell bK2.out 3).trans rfl
               refine value_ (w1 := w') (v := .agg #[.int .i64 ((rd_T23 y640 x22_2).f0), .int .i64 ((rd_T23 y640 x22_2).f1), .int .i64 ((rd_T23 y640 x22_2).f2), .int .i64 ((rd_T23 y640 x22_2).f3)]) (by rfl) rfl ?_ ?_
               ·go_simp
                (try simp only [i64_w])
                try rfl
               refine hK.out _ _ ⟨g3, m5_, (by rw [ha.out]; exact putSel_upk 2 hb_ rfl rfl rfl), qK1, qK2, Q_HB, qK3, qW3, qE3, qN1_3, qN3_1, qN2_3, qN3_2, fun h0_ => absurd ((hoff 6 (by kernel_rfl)).symm.trans h0_) (by decide), Q_X5_⟩
              refine steps_cons ?_ ?_
              ·rintro b a w' ⟨g3, m5_, ha, qK1, qK2, Q_HB, qK3, qW3, qE3, qN1_3, qN3_1, qN2_3, qN3_2, qK3_e6, Q_X5_⟩ hb_ hon hoff
               refine ⟨_, rfl, fun K hK => ?_⟩
               have e28 : a.tmps[28]? = some (.agg #[.int .i64 ((rd_T23 y640 x22_2).f0), .int .i64 ((rd_T23 y640 x22_2).f1), .int .i64 ((rd_T23 y640 x22_2).f2), .int .i64 ((rd_T23 y640 x22_2).f3)]) := by rw [ha]; exact putSel_on (e := (2, 28, .agg #[.int .i64 ((rd_T23 y640 x22_2).f0), .int .i64 ((rd_T23 y640 x22_2).f1), .int .i64 ((rd_T23 y640 x22_2).f2), .int .i64 ((rd_T23 y640 x22_2).f3)])) 2 rfl rfl (hon 2 (by kernel_rfl)) rfl
               replace ha := Aside0.mk ha
               have bK1 := Aside0.mk qK1
               have bK2 := Aside0.mk qK2
               have HB := Aside0.mk Q_HB
               refine goes_ Try.func149 (by kernel_rfl) rfl #[.agg #[.int .i64 ((rd_T23 y640 x22_2).f0), .int .i64 ((rd_T23 y640 x22_2).f1), .int .i64 ((rd_T23 y640 x22_2).f2), .int .i64 ((rd_T23 y640 x22_2).f3)]] (by rfl) rfl rfl (by first | (simp only [List.map_toArray, List.map_cons, List.map_nil, Act.eval, Array.getD_eq_getD_getElem?, Option.getD_some, e28]; done) | (simp only [List.map_toArray, List.map_cons, List.map_nil, Act.eval, Array.getD_eq_getD_getElem?, Option.getD_some, e28]; rfl)) ?_
               with_reducible refine (impl_normal.calls ((rd_T23 y640 x22_2).f0) ((rd_T23 y640 x22_2).f1) ((rd_T23 y640 x22_2).f2) ((rd_T23 y640 x22_2).f3) t649 t650 t651 _ A19.out).mono ?_
               rintro e w29 ⟨rfl, hb⟩
               refine ⟨_, rfl, ?_⟩
               have n0_ := kb bK1 hb
               have n1_ := kb bK2 hb
               have n2_ := bt HB hb
               have zK3 := fun (h0_ : b 5 = true) (h1_ : b 6 = false) => (show w29.heap[g3]? = some (.cells #[.int .i64 0, .int .i64 0, .int .i64 0] 128 (0, 0)) from by first | exact (blk_below (g := g3) (o := .cells #[.int .i64 0, .int .i64 0, .int .i64 0] 128 (0, 0)) (by (with_reducible repeat (first | refine blk_drewN ?_ _ | refine blk_drew ?_ | refine blk_alloc ?_ _)); exact (qK3 h0_ h1_)) hb))
               clear bK1
               clear bK2
               clear HB
               have bK1 := n0_
               have bK2 := n1_
               have HB := n2_
               clear n0_ n1_ n2_
               (try clear hb)
               (try clear hb2)
               (try clear hk)
               (try clear hi)
               refine hK.out _ _ ⟨g3, m5_, (by rw [ha.out]; exact putSel_upk 3 hb_ rfl rfl rfl), (kbx bK1), (kbx bK2), (hbx HB), zK3, qW3, qE3, qN1_3, qN3_1, qN2_3, qN3_2, fun h0_ => absurd ((hoff 6 (by kernel_rfl)).symm.trans h0_) (by decide), Q_X5_⟩
              refine steps_cons ?_ ?_
              ·rintro b a w' ⟨g3, m5_, ha, qK1, qK2, Q_HB, qK3, qW3, qE3, qN1_3, qN3_1, qN2_3, qN3_2, qK3_e6, Q_X5_⟩ hb_ hon hoff
               refine ⟨_, rfl, fun K hK => ?_⟩
               have e27 : a.tmps[27]? = some (.agg #[.int .i64 t646, .int .i64 t647, .int .i64 t648]) := by rw [ha]; exact putSel_on (e := (1, 27, .agg #[.int .i64 t646, .int .i64 t647, .int .i64 t648])) 1 rfl rfl (hon 1 (by kernel_rfl)) rfl
               have e29 : a.tmps[29]? = some (.agg #[.int .i64 t649, .int .i64 t650, .int .i64 t651]) := by rw [ha]; exact putSel_on (e := (3, 29, .agg #[.int .i64 t649, .int .i64 t650, .int .i64 t651])) 3 rfl rfl (hon 3 (by kernel_rfl)) rfl
               replace ha := Aside0.mk ha
               have bK1 := Aside0.mk qK1
               have bK2 := Aside0.mk qK2
               have HB := Aside0.mk Q_HB
               refine goes_ Try.func148 (by kernel_rfl) rfl #[.agg #[.int .i64 t646, .int .i64 t647, .int .i64 t648], .agg #[.int .i64 t649, .int .i64 t650, .int .i64 t651]] (by rfl) rfl rfl (by first | (simp only [List.map_toArray, List.map_cons, List.map_nil, Act.eval, Array.getD_eq_getD_getElem?, Option.getD_some, e27, e29]; done) | (simp only [List.map_toArray, List.map_cons, List.map_nil, Act.eval, Array.getD_eq_getD_getElem?, Option.getD_some, e27, e29]; rfl)) ?_
               with_reducible refine (impl_crossOf.calls t646 t647 t648 t649 t650 t651 t652 t653 t654 _ A20.out).mono ?_
               rintro e w30 ⟨rfl, hb⟩
               refine ⟨_, rfl, ?_⟩
               have n0_ := kb bK1 hb
               have n1_ := kb bK2 hb
               have n2_ := bt HB hb
               have zK3 := fun (h0_ : b 5 = true) (h1_ : b 6 = false) => (show w30.heap[g3]? = some (.cells #[.int .i64 0, .int .i64 0, .int .i64 0] 128 (0, 0)) from by first | exact (blk_below (g := g3) (o := .cells #[.int .i64 0, .int .i64 0, .int .i64 0] 128 (0, 0)) (by (with_reducible repeat (first | refine blk_drewN ?_ _ | refine blk_drew ?_ | refine blk_alloc ?_ _)); exact (qK3 h0_ h1_)) hb))
               clear bK1
               clear bK2
               clear HB
               have bK1 := n0_
               have bK2 := n1_
               have HB := n2_
               clear n0_ n1_ n2_
               (try clear hb)
               (try clear hb2)
               (try clear hk)
               (try clear hi)
               refine hK.out _ _ ⟨g3, m5_, (by rw [ha.out]; exact putSel_upk 4 hb_ rfl rfl rfl), (kbx bK1), (kbx bK2), (hbx HB), zK3, qW3, qE3, qN1_3, qN3_1, qN2_3, qN3_2, fun h0_ => absurd ((hoff 6 (by kernel_rfl)).symm.trans h0_) (by decide), Q_X5_⟩
              refine steps_cons ?_ ?_
              ·rintro b a w' ⟨g3, m5_, ha, qK1, qK2, Q_HB, qK3, qW3, qE3, qN1_3, qN3_1, qN2_3, qN3_2, qK3_e6, Q_X5_⟩ hb_ hon hoff
               refine ⟨_, rfl, fun K hK => ?_⟩
               replace ha := Aside0.mk ha
               have bK1 := Aside0.mk qK1
               have bK2 := Aside0.mk qK2
               have HB := Aside0.mk Q_HB
               refine box_step ?hg (N := 7) ?hd (cs := #[.int .i64 0, .int .i64 0, .int .i64 0]) (t := 128) ?hr ?_; (case hd => rfl); (case hg => rfl); (case hr => first | (go_simp; done) | (go_simp; rfl))
               intro g3 hg w27 hbox hb
               have n0_ := kb bK1 hb
               have n1_ := kb bK2 hb
               have n2_ := bt HB hb
               have n3_ := Aside0.mk (hbox)
               have n4_ := gx hg HB
               have n5_ := gx hg HB
               have n6_ := nl hg bK1
               have n7_ := nr hg bK1
               have n8_ := nl hg bK2
               have n9_ := nr hg bK2
               clear bK1
               clear bK2
               clear HB
               have bK1 := n0_
               have bK2 := n1_
               have HB := n2_
               have bK3 := n3_
               have bW3 := n4_
               have bE3 := n5_
               have bN1_3 := n6_
               have bN3_1 := n7_
               have bN2_3 := n8_
               have bN3_2 := n9_
               clear n0_ n1_ n2_ n3_ n4_ n5_ n6_ n7_ n8_ n9_
               clear hb hbox hg
               refine hK.out _ _ ⟨g3, (.pointer (some ⟨g3, 0, none⟩)), (by rw [ha.out]; exact putSel_upk 5 hb_ rfl rfl rfl), (kbx bK1), (kbx bK2), (hbx HB), fun _ _ => (kbx bK3), fun _ => bW3.out, fun _ => bE3.out, fun _ => bN1_3.out, fun _ => bN3_1.out, fun _ => bN2_3.out, fun _ => bN3_2.out, fun h0_ => absurd ((hoff 6 (by kernel_rfl)).symm.trans h0_) (by decide), fun _ => rfl⟩
              refine steps_cons ?_ ?_
              ·rintro b a w' ⟨g3, m5_, ha, qK1, qK2, Q_HB, qK3, qW3, qE3, qN1_3, qN3_1, qN2_3, qN3_2, qK3_e6, Q_X5_⟩ hb_ hon hoff
               refine ⟨_, rfl, fun K hK => ?_⟩
               have e7 : a.tmps[7]? = some (m5_) := by rw [ha]; exact putSel_on (e := (5, 7, m5_)) 5 rfl rfl (hon 5 (by kernel_rfl)) rfl
               rw [Q_X5_ (hon 5 (by kernel_rfl))] at e7
               have e30 : a.tmps[30]? = some (.agg #[.int .i64 t652, .int .i64 t653, .int .i64 t654]) := by rw [ha]; exact putSel_on (e := (4, 30, .agg #[.int .i64 t652, .int .i64 t653, .int .i64 t654])) 4 rfl rfl (hon 4 (by kernel_rfl)) rfl
               replace ha := Aside0.mk ha
               have bK1 := Aside0.mk qK1
               have bK2 := Aside0.mk qK2
               have HB := Aside0.mk Q_HB
               have bK3 := Aside0.mk (qK3 (hon 5 (by kernel_rfl)) hb_)
               have bW3 := Aside0.mk (qW3 (hon 5 (by kernel_rfl)))
               have bE3 := Aside0.mk (qE3 (hon 5 (by kernel_rfl)))
               have bN1_3 := Aside0.mk (qN1_3 (hon 5 (by kernel_rfl)))
               have bN3_1 := Aside0.mk (qN3_1 (hon 5 (by kernel_rfl)))
               have bN2_3 := Aside0.mk (qN2_3 (hon 5 (by kernel_rfl)))
               have bN3_2 := Aside0.mk (qN3_2 (hon 5 (by kernel_rfl)))
               have hs32 : w'.cell? ⟨g3, 0, none⟩ = some (.int .i64 0) := (blk_cell bK3.out 0).trans rfl
               have hfs32 := blk_frozen bK3.out 0
               have hns32_0 := bN1_3.out
               have hns32_1 := bN2_3.out
               have hms32_0 := bN3_1.out
               have hms32_1 := bN3_2.out
               have hs33 : w'.cell? ⟨g3, 1, none⟩ = some (.int .i64 0) := (blk_cell bK3.out 1).trans rfl
               have hfs33 := blk_frozen bK3.out 1
               have hns33_0 := bN1_3.out
               have hns33_1 := bN2_3.out
               have hms33_0 := bN3_1.out
               have hms33_1 := bN3_2.out
               have hs34 : w'.cell? ⟨g3, 2, none⟩ = some (.int .i64 0) := (blk_cell bK3.out 2).trans rfl
               have hfs34 := blk_frozen bK3.out 2
               have hns34_0 := bN1_3.out
               have hns34_1 := bN2_3.out
               have hms34_0 := bN3_1.out
               have hms34_1 := bN3_2.out
               refine skip_ (w1 := ?_) (by rfl) rfl ?_ ?_
               rotate_left
               ·go_simp
                rfl
               refine hK.out _ _ ⟨g3, m5_, (by rw [ha.out]; exact putSel_none (v := undef) rfl), (kfx bK1), (kfx bK2), (hbx HB), fun _ h1_ => absurd ((up_self b 6).symm.trans h1_) (by decide), fun _ => bW3.out, fun _ => bE3.out, fun _ => bN1_3.out, fun _ => bN3_1.out, fun _ => bN2_3.out, fun _ => bN3_2.out, fun _ => (by (with_reducible repeat (first | refine blk_drewN ?_ _ | refine blk_drew ?_ | refine blk_alloc ?_ _)); refine blk_put (cs := #[.int .i64 t652, .int .i64 t653, .int .i64 0]) ?_ 2 _ rfl; (with_reducible repeat (first | refine blk_drewN ?_ _ | refine blk_drew ?_ | refine blk_alloc ?_ _)); refine blk_put (cs := #[.int .i64 t652, .int .i64 0, .int .i64 0]) ?_ 1 _ rfl; (with_reducible repeat (first | refine blk_drewN ?_ _ | refine blk_drew ?_ | refine blk_alloc ?_ _)); refine blk_put (cs := #[.int .i64 0, .int .i64 0, .int .i64 0]) ?_ 0 _ rfl; (with_reducible repeat (first | refine blk_drewN ?_ _ | refine blk_drew ?_ | refine blk_alloc ?_ _)); exact bK3.out), Q_X5_⟩
              exact steps_nil
             rintro b a w34 hall ⟨g3, m5_, ha, qK1, qK2, Q_HB, qK3, qW3, qE3, qN1_3, qN3_1, qN2_3, qN3_2, qK3_e6, Q_X5_⟩
             clear bK1 bK2 HB
             have hb0_ := hall 0 (by kernel_rfl)
             have hb1_ := hall 1 (by kernel_rfl)
             have hb2_ := hall 2 (by kernel_rfl)
             have hb3_ := hall 3 (by kernel_rfl)
             have hb4_ := hall 4 (by kernel_rfl)
             have hb5_ := hall 5 (by kernel_rfl)
             have hb6_ := hall 6 (by kernel_rfl)
             subst ha
             obtain rfl := Q_X5_ hb5_
             simp only [putSel, hb0_, hb1_, hb2_, hb3_, hb4_, hb5_, hb6_, if_true, Act.put, List.setIfInBounds_toArray, List.set_cons_zero, List.set_cons_succ]
             have bK1 := Aside0.mk qK1
             clear qK1
             have bK2 := Aside0.mk qK2
             clear qK2
             have HB := Aside0.mk Q_HB
             clear Q_HB
             clear qK3
             have bW3 := Aside0.mk (qW3 hb5_)
             clear qW3
             have bE3 := Aside0.mk (qE3 hb5_)
             clear qE3
             have bN1_3 := Aside0.mk (qN1_3 hb5_)
             clear qN1_3
             have bN3_1 := Aside0.mk (qN3_1 hb5_)
             clear qN3_1
             have bN2_3 := Aside0.mk (qN2_3 hb5_)
             clear qN2_3
             have bN3_2 := Aside0.mk (qN3_2 hb5_)
             clear qN3_2
             have bK3 := Aside0.mk (qK3_e6 hb6_)
             clear qK3_e6
             clear hall hb0_ hb1_ hb2_ hb3_ hb4_ hb5_ hb6_
             have hnb35 := bN3_1.out
             have hnc35 := bN1_3.out
             have hnb36 := bN3_2.out
             have hnc36 := bN2_3.out
             obtain ⟨hcz37_0, hcz37_1, hcz37_2, hfz37_0, hfz37_1, hfz37_2⟩ := cz3 bK3
             try go_wp2
             go_roundg k2
             case measure => have := HK1.out; have := HK2.out; omega
             case rel => exact ⟨(wrap64 (x22_2 + 1)), re, H', ⟨by have := HK1.out; have := HK2.out; omega⟩, ⟨by (with_reducible repeat (first | refine blk_drewN ?_ _ | refine blk_drew ?_ | refine blk_alloc ?_ _)); exact bK1.out⟩, ⟨by repeat (first | (with_reducible first | exact HB.out | apply below_alloc | apply pw_below_drewN | apply below_drew1 | refine below_set ?_ bE1.out | refine below_set ?_ bE2.out | refine below_set ?_ bE3.out) | exact HB.out)⟩⟩
            rw [if_neg c21] at H
            have c21b0 : (t652 == 0 && (t653 == 0 && (t654 == 0))) = false := by simpa using c21
            (try (have c21b1 : decide (t652 = 0 && (t653 == 0 && (t654 == 0))) = false := by simpa using c21))
            (try (have c21b2 : (t652 == 0 && (t653 == 0 && (t654 == 0))) = false := by simpa using c21))
            (try (have c21b3 : ¬ (t652 = 0 && (t653 == 0 && (t654 == 0))) := by simpa using c21))
            clear c21
            have HC38 := Aside0.mk H
            clear H
            have p644 : 0 ≤ (x22_2 : Int) := dk
            have q644 : x22_2 < (y640.length : Int) := dk
            obtain ⟨ad644, e644, hx644_0, hx644_1, hx644_2, hx644_3⟩ := at_T23 HR643.out x22_2 p644 q644
            obtain rfl : ad638 = ad644 := (by injection e644)
            replace hx644_0 := hc HB hx644_0
            replace hx644_1 := hc HB hx644_1
            replace hx644_2 := hc HB hx644_2
            replace hx644_3 := hc HB hx644_3
            replace p644 := eq_true p644
            replace q644 := eq_true q644
            try go_wp2_with (first | ((with_reducible refine gate_dst (N := 6) rfl ?_); refine box_event ?hg (N := 6) ?hd (cs := #[.int .i64 0, .int .i64 0, .int .i64 0, .int .i64 0]) (t := 23) ?hr ?_; (case hd => rfl); (case hg => rfl); (case hr => first | (go_simp; done) | (go_simp; rfl)); intro g2 hg w39 hbox hb; have n0_ := kb bK1 hb; have n1_ := bt HB hb; have n2_ := Aside0.mk (hbox); have n3_ := gx hg HB; have n4_ := gx hg HB; have n5_ := nl hg bK1; have n6_ := nr hg bK1; clear bK1; clear HB; have bK1 := n0_; have HB := n1_; have bK2 := n2_; have bW2 := n3_; have bE2 := n4_; have bN1_2 := n5_; have bN2_1 := n6_; clear n0_ n1_ n2_ n3_ n4_ n5_ n6_; clear hb hbox hg; have hnb40 := bN2_1.out; have hnc40 := bN1_2.out; obtain ⟨hcz41_0, hcz41_1, hcz41_2, hcz41_3, hfz41_0, hfz41_1, hfz41_2, hfz41_3⟩ := cz4 bK2))
            have n0_ : Aside0 (((((w39.setCell ⟨g2, 0, none⟩ (.int .i64 ((rd_T23 y640 x22_2).f0))).setCell ⟨g2, 1, none⟩ (.int .i64 ((rd_T23 y640 x22_2).f1))).setCell ⟨g2, 2, none⟩ (.int .i64 ((rd_T23 y640 x22_2).f2))).setCell ⟨g2, 3, none⟩ (.int .i64 ((rd_T23 y640 x22_2).f3))).heap[g1]? = some (.cells #[.int .i64 ((rd_T23 l0 x13_1).f0), .int .i64 ((rd_T23 l0 x13_1).f1), .int .i64 ((rd_T23 l0 x13_1).f2), .int .i64 ((rd_T23 l0 x13_1).f3)] 23 (0, 0))) := ⟨by (with_reducible repeat (first | refine blk_drewN ?_ _ | refine blk_drew ?_ | refine blk_alloc ?_ _)); refine blk_far ?_ bN1_2.out _; (with_reducible repeat (first | refine blk_drewN ?_ _ | refine blk_drew ?_ | refine blk_alloc ?_ _)); refine blk_far ?_ bN1_2.out _; (with_reducible repeat (first | refine blk_drewN ?_ _ | refine blk_drew ?_ | refine blk_alloc ?_ _)); refine blk_far ?_ bN1_2.out _; (with_reducible repeat (first | refine blk_drewN ?_ _ | refine blk_drew ?_ | refine blk_alloc ?_ _)); refine blk_far ?_ bN1_2.out _; (with_reducible repeat (first | refine blk_drewN ?_ _ | refine blk_drew ?_ | refine blk_alloc ?_ _)); exact bK1.out⟩
            have n1_ : Aside0 (((((w39.setCell ⟨g2, 0, none⟩ (.int .i64 ((rd_T23 y640 x22_2).f0))).setCell ⟨g2, 1, none⟩ (.int .i64 ((rd_T23 y640 x22_2).f1))).setCell ⟨g2, 2, none⟩ (.int .i64 ((rd_T23 y640 x22_2).f2))).setCell ⟨g2, 3, none⟩ (.int .i64 ((rd_T23 y640 x22_2).f3))).heap[g2]? = some (.cells #[.int .i64 ((rd_T23 y640 x22_2).f0), .int .i64 ((rd_T23 y640 x22_2).f1), .int .i64 ((rd_T23 y640 x22_2).f2), .int .i64 ((rd_T23 y640 x22_2).f3)] 23 (0, 0))) := ⟨by (with_reducible repeat (first | refine blk_drewN ?_ _ | refine blk_drew ?_ | refine blk_alloc ?_ _)); refine blk_put (cs := #[.int .i64 ((rd_T23 y640 x22_2).f0), .int .i64 ((rd_T23 y640 x22_2).f1), .int .i64 ((rd_T23 y640 x22_2).f2), .int .i64 0]) ?_ 3 _ rfl; (with_reducible repeat (first | refine blk_drewN ?_ _ | refine blk_drew ?_ | refine blk_alloc ?_ _)); refine blk_put (cs := #[.int .i64 ((rd_T23 y640 x22_2).f0), .int .i64 ((rd_T23 y640 x22_2).f1), .int .i64 0, .int .i64 0]) ?_ 2 _ rfl; (with_reducible repeat (first | refine blk_drewN ?_ _ | refine blk_drew ?_ | refine blk_alloc ?_ _)); refine blk_put (cs := #[.int .i64 ((rd_T23 y640 x22_2).f0), .int .i64 0, .int .i64 0, .int .i64 0]) ?_ 1 _ rfl; (with_reducible repeat (first | refine blk_drewN ?_ _ | refine blk_drew ?_ | refine blk_alloc ?_ _)); refine blk_put (cs := #[.int .i64 0, .int .i64 0, .int .i64 0, .int .i64 0]) ?_ 0 _ rfl; (with_reducible repeat (first | refine blk_drewN ?_ _ | refine blk_drew ?_ | refine blk_alloc ?_ _)); exact bK2.out⟩
            have n2_ : Aside0 (Below w.heap.size w ((((w39.setCell ⟨g2, 0, none⟩ (.int .i64 ((rd_T23 y640 x22_2).f0))).setCell ⟨g2, 1, none⟩ (.int .i64 ((rd_T23 y640 x22_2).f1))).setCell ⟨g2, 2, none⟩ (.int .i64 ((rd_T23 y640 x22_2).f2))).setCell ⟨g2, 3, none⟩ (.int .i64 ((rd_T23 y640 x22_2).f3)))) := ⟨by repeat (first | (with_reducible first | exact HB.out | apply below_alloc | apply pw_below_drewN | apply below_drew1 | refine below_set ?_ bE1.out | refine below_set ?_ bE2.out) | exact HB.out)⟩
            (try clear bK1)
            (try clear bK2)
            (try clear HB)
            generalize ((((w39.setCell ⟨g2, 0, none⟩ (.int .i64 ((rd_T23 y640 x22_2).f0))).setCell ⟨g2, 1, none⟩ (.int .i64 ((rd_T23 y640 x22_2).f1))).setCell ⟨g2, 2, none⟩ (.int .i64 ((rd_T23 y640 x22_2).f2))).setCell ⟨g2, 3, none⟩ (.int .i64 ((rd_T23 y640 x22_2).f3))) = w42 at n0_ n1_ n2_ ⊢
            have bK1 := n0_
            have bK2 := n1_
            have HB := n2_
            clear n0_ n1_ n2_
            replace bK1 := Aside0.mk (blk_drew bK1.out)
            replace bK2 := Aside0.mk (blk_drew bK2.out)
            replace HB := Aside0.mk (below_drew1 HB.out)
            refine start_ (n := 7) (S := fun w' => True) (ds := []) (bl 7 0) (by kernel_rfl) rfl rfl trivial (fun hHeld => ?_); refine with_tabW impl_bounded.tab9 impl_bounded.bits9 (fun HT_ HW_ => ?_)
            generalize w42.drew = w43 at bK1 bK2 HB hHeld ⊢
            refine inv_at [0, 1, 2, 3, 4, 5, 6] (fun a0_ b a w' => ∃ (g3 : Nat) (m5_ : Value), a = putSel a0_ b [(0, 26, .agg #[.int .i64 ((rd_T23 l0 x13_1).f0), .int .i64 ((rd_T23 l0 x13_1).f1), .int .i64 ((rd_T23 l0 x13_1).f2), .int .i64 ((rd_T23 l0 x13_1).f3)]), (1, 27, .agg #[.int .i64 t646, .int .i64 t647, .int .i64 t648]), (2, 28, .agg #[.int .i64 ((rd_T23 y640 x22_2).f0), .int .i64 ((rd_T23 y640 x22_2).f1), .int .i64 ((rd_T23 y640 x22_2).f2), .int .i64 ((rd_T23 y640 x22_2).f3)]), (3, 29, .agg #[.int .i64 t649, .int .i64 t650, .int .i64 t651]), (4, 30, .agg #[.int .i64 t652, .int .i64 t653, .int .i64 t654]), (5, 7, m5_)] ∧ (w'.heap[g1]? = some (.cells #[.int .i64 ((rd_T23 l0 x13_1).f0), .int .i64 ((rd_T23 l0 x13_1).f1), .int .i64 ((rd_T23 l0 x13_1).f2), .int .i64 ((rd_T23 l0 x13_1).f3)] 23 (0, 0))) ∧ (w'.heap[g2]? = some (.cells #[.int .i64 ((rd_T23 y640 x22_2).f0), .int .i64 ((rd_T23 y640 x22_2).f1), .int .i64 ((rd_T23 y640 x22_2).f2), .int .i64 ((rd_T23 y640 x22_2).f3)] 23 (0, 0))) ∧ (Below w.heap.size w w') ∧ (b 5 = true → b 6 = false → w'.heap[g3]? = some (.cells #[.int .i64 0, .int .i64 0, .int .i64 0] 128 (0, 0))) ∧ (b 5 = true → w.heap.size ≤ g3) ∧ (b 5 = true → w.heap.size ≤ g3) ∧ (b 5 = true → g1 ≠ g3) ∧ (b 5 = true → g3 ≠ g1) ∧ (b 5 = true → g2 ≠ g3) ∧ (b 5 = true → g3 ≠ g2) ∧ (b 6 = true → w'.heap[g3]? = some (.cells #[.int .i64 t652, .int .i64 t653, .int .i64 t654] 128 (0, 0))) ∧ (b 5 = true → (m5_ : Value) = .pointer (some ⟨g3, 0, none⟩))) HT_.out HW_.out (by kernel_rfl) (by kernel_rfl) ?_ ?_ ?_
            ·exact ⟨0, .bool false, by simp only [putSel, Bool.false_eq_true, if_false], bK1.out, bK2.out, HB.out, fun h_ => absurd h_ (by decide), fun h_ => absurd h_ (by decide), fun h_ => absurd h_ (by decide), fun h_ => absurd h_ (by decide), fun h_ => absurd h_ (by decide), fun h_ => absurd h_ (by decide), fun h_ => absurd h_ (by decide), fun h_ => absurd h_ (by decide), fun h_ => absurd h_ (by decide)⟩
            ·skip
             clear bK1 bK2 HB
             refine steps_cons ?_ ?_
             ·rintro b a w' ⟨g3, m5_, ha, qK1, qK2, Q_HB, qK3, qW3, qE3, qN1_3, qN3_1, qN2_3, qN3_2, qK3_e6, Q_X5_⟩ hb_ hon hoff
              refine ⟨_, rfl, fun K hK => ?_⟩
              have e4 : a.tmps[4]? = some (.pointer (some ⟨g1, 0, none⟩)) := by rw [ha]; exact (putSel_off rfl).trans rfl
              replace ha := Aside0.mk ha
              have bK1 := Aside0.mk qK1
              have bK2 := Aside0.mk qK2
              have HB := Aside0.mk Q_HB
              have hc0_ : w'.cell? ⟨g1, 0, none⟩ = some (.int .i64 ((rd_T23 l0 x13_1).f0)) := (blk_cell bK1.out 0).trans rfl
              have hc1_ : w'.cell? ⟨g1, 1, none⟩ = some (.int .i64 ((rd_T23 l0 x13_1).f1)) := (blk_cell bK1.out 1).trans rfl
              have hc2_ : w'.cell? ⟨g1, 2, none⟩ = some (.int .i64 ((rd_T23 l0 x13_1).f2)) := (blk_cell bK1.out 2).trans rfl
              have hc3_ : w'.cell? ⟨g1, 3, none⟩ = some (.int .i64 ((rd_T23 l0 x13_1).f3)) := (blk_cell bK1.out 3).trans rfl
              refine value_ (w1 := w') (v := .agg #[.int .i64 ((rd_T23 l0 x13_1).f0), .int .i64 ((rd_T23 l0 x13_1).f1), .int .i64 ((rd_T23 l0 x13_1).f2), .int .i64 ((rd_T23 l0 x13_1).f3)]) (by rfl) rfl ?_ ?_
              ·go_simp
               (try simp only [i64_w])
               try rfl
              refine hK.out _ _ ⟨g3, m5_, (by rw [ha.out]; exact putSel_upk 0 hb_ rfl rfl rfl), qK1, qK2, Q_HB, qK3, qW3, qE3, qN1_3, qN3_1, qN2_3, qN3_2, fun h0_ => absurd ((hoff 6 (by kernel_rfl)).symm.trans h0_) (by decide), Q_X5_⟩
             refine steps_cons ?_ ?_
             ·rintro b a w' ⟨g3, m5_, ha, qK1, qK2, Q_HB, qK3, qW3, qE3, qN1_3, qN3_1, qN2_3, qN3_2, qK3_e6, Q_X5_⟩ hb_ hon hoff
              refine ⟨_, rfl, fun K hK => ?_⟩
              have e26 : a.tmps[26]? = some (.agg #[.int .i64 ((rd_T23 l0 x13_1).f0), .int .i64 ((rd_T23 l0 x13_1).f1), .int .i64 ((rd_T23 l0 x13_1).f2), .int .i64 ((rd_T23 l0 x13_1).f3)]) := by rw [ha]; exact putSel_on (e := (0, 26, .agg #[.int .i64 ((rd_T23 l0 x13_1).f0), .int .i64 ((rd_T23 l0 x13_1).f1), .int .i64 ((rd_T23 l0 x13_1).f2), .int .i64 ((rd_T23 l0 x13_1).f3)])) 0 rfl rfl (hon 0 (by kernel_rfl)) rfl
              replace ha := Aside0.mk ha
              have bK1 := Aside0.mk qK1
              have bK2 := Aside0.mk qK2
              have HB := Aside0.mk Q_HB
              refine goes_ Try.func149 (by kernel_rfl) rfl #[.agg #[.int .i64 ((rd_T23 l0 x13_1).f0), .int .i64 ((rd_T23 l0 x13_1).f1), .int .i64 ((rd_T23 l0 x13_1).f2), .int .i64 ((rd_T23 l0 x13_1).f3)]] (by rfl) rfl rfl (by first | (simp only [List.map_toArray, List.map_cons, List.map_nil, Act.eval, Array.getD_eq_getD_getElem?, Option.getD_some, e26]; done) | (simp only [List.map_toArray, List.map_cons, List.map_nil, Act.eval, Array.getD_eq_getD_getElem?, Option.getD_some, e26]; rfl)) ?_
              with_reducible refine (impl_normal.calls ((rd_T23 l0 x13_1).f0) ((rd_T23 l0 x13_1).f1) ((rd_T23 l0 x13_1).f2) ((rd_T23 l0 x13_1).f3) t646 t647 t648 _ A18.out).mono ?_
              rintro e w44 ⟨rfl, hb⟩
              refine ⟨_, rfl, ?_⟩
              have n0_ := kb bK1 hb
              have n1_ := kb bK2 hb
              have n2_ := bt HB hb
              have zK3 := fun (h0_ : b 5 = true) (h1_ : b 6 = false) => (show w44.heap[g3]? = some (.cells #[.int .i64 0, .int .i64 0, .int .i64 0] 128 (0, 0)) from by first | exact (blk_below (g := g3) (o := .cells #[.int .i64 0, .int .i64 0, .int .i64 0] 128 (0, 0)) (by (with_reducible repeat (first | refine blk_drewN ?_ _ | refine blk_drew ?_ | refine blk_alloc ?_ _)); exact (qK3 h0_ h1_)) hb))
              clear bK1
              clear bK2
              clear HB
              have bK1 := n0_
              have bK2 := n1_
              have HB := n2_
              clear n0_ n1_ n2_
              (try clear hb)
              (try clear hb2)
              (try clear hk)
              (try clear hi)
              refine hK.out _ _ ⟨g3, m5_, (by rw [ha.out]; exact putSel_upk 1 hb_ rfl rfl rfl), (kbx bK1), (kbx bK2), (hbx HB), zK3, qW3, qE3, qN1_3, qN3_1, qN2_3, qN3_2, fun h0_ => absurd ((hoff 6 (by kernel_rfl)).symm.trans h0_) (by decide), Q_X5_⟩
             refine steps_cons ?_ ?_
             ·rintro b a w' ⟨g3, m5_, ha, qK1, qK2, Q_HB, qK3, qW3, qE3, qN1_3, qN3_1, qN2_3, qN3_2, qK3_e6, Q_X5_⟩ hb_ hon hoff
              refine ⟨_, rfl, fun K hK => ?_⟩
              have e6 : a.tmps[6]? = some (.pointer (some ⟨g2, 0, none⟩)) := by rw [ha]; exact (putSel_off rfl).trans rfl
              replace ha := Aside0.mk ha
              have bK1 := Aside0.mk qK1
              have bK2 := Aside0.mk qK2
              have HB := Aside0.mk Q_HB
              have hc0_ : w'.cell? ⟨g2, 0, none⟩ = some (.int .i64 ((rd_T23 y640 x22_2).f0)) := (blk_cell bK2.out 0).trans rfl
              have hc1_ : w'.cell? ⟨g2, 1, none⟩ = some (.int .i64 ((rd_T23 y640 x22_2).f1)) := (blk_cell bK2.out 1).trans rfl
              have hc2_ : w'.cell? ⟨g2, 2, none⟩ = some (.int .i64 ((rd_T23 y640 x22_2).f2)) := (blk_cell bK2.out 2).trans rfl
              have hc3_ : w'.cell? ⟨g2, 3, none⟩ = some (.int .i64 ((rd_T23 y640 x22_2).f3)) := (blk_cell bK2.out 3).trans rfl
              refine value_ (w1 := w') (v := .agg #[.int .i64 ((rd_T23 y640 x22_2).f0), .int .i64 ((rd_T23 y640 x22_2).f1), .int .i64 ((rd_T23 y640 x22_2).f2), .int .i64 ((rd_T23 y640 x22_2).f3)]) (by rfl) rfl ?_ ?_
              ·go_simp
               (try simp only [i64_w])
               try rfl
              refine hK.out _ _ ⟨g3, m5_, (by rw [ha.out]; exact putSel_upk 2 hb_ rfl rfl rfl), qK1, qK2, Q_HB, qK3, qW3, qE3, qN1_3, qN3_1, qN2_3, qN3_2, fun h0_ => absurd ((hoff 6 (by kernel_rfl)).symm.trans h0_) (by decide), Q_X5_⟩
             refine steps_cons ?_ ?_
             ·rintro b a w' ⟨g3, m5_, ha, qK1, qK2, Q_HB, qK3, qW3, qE3, qN1_3, qN3_1, qN2_3, qN3_2, qK3_e6, Q_X5_⟩ hb_ hon hoff
              refine ⟨_, rfl, fun K hK => ?_⟩
              have e28 : a.tmps[28]? = some (.agg #[.int .i64 ((rd_T23 y640 x22_2).f0), .int .i64 ((rd_T23 y640 x22_2).f1), .int .i64 ((rd_T23 y640 x22_2).f2), .int .i64 ((rd_T23 y640 x22_2).f3)]) := by rw [ha]; exact putSel_on (e := (2, 28, .agg #[.int .i64 ((rd_T23 y640 x22_2).f0), .int .i64 ((rd_T23 y640 x22_2).f1), .int .i64 ((rd_T23 y640 x22_2).f2), .int .i64 ((rd_T23 y640 x22_2).f3)])) 2 rfl rfl (hon 2 (by kernel_rfl)) rfl
              replace ha := Aside0.mk ha
              have bK1 := Aside0.mk qK1
              have bK2 := Aside0.mk qK2
              have HB := Aside0.mk Q_HB
              refine goes_ Try.func149 (by kernel_rfl) rfl #[.agg #[.int .i64 ((rd_T23 y640 x22_2).f0), .int .i64 ((rd_T23 y640 x22_2).f1), .int .i64 ((rd_T23 y640 x22_2).f2), .int .i64 ((rd_T23 y640 x22_2).f3)]] (by rfl) rfl rfl (by first | (simp only [List.map_toArray, List.map_cons, List.map_nil, Act.eval, Array.getD_eq_getD_getElem?, Option.getD_some, e28]; done) | (simp only [List.map_toArray, List.map_cons, List.map_nil, Act.eval, Array.getD_eq_getD_getElem?, Option.getD_some, e28]; rfl)) ?_
              with_reducible refine (impl_normal.calls ((rd_T23 y640 x22_2).f0) ((rd_T23 y640 x22_2).f1) ((rd_T23 y640 x22_2).f2) ((rd_T23 y640 x22_2).f3) t649 t650 t651 _ A19.out).mono ?_
              rintro e w46 ⟨rfl, hb⟩
              refine ⟨_, rfl, ?_⟩
              have n0_ := kb bK1 hb
              have n1_ := kb bK2 hb
              have n2_ := bt HB hb
              have zK3 := fun (h0_ : b 5 = true) (h1_ : b 6 = false) => (show w46.heap[g3]? = some (.cells #[.int .i64 0, .int .i64 0, .int .i64 0] 128 (0, 0)) from by first | exact (blk_below (g := g3) (o := .cells #[.int .i64 0, .int .i64 0, .int .i64 0] 128 (0, 0)) (by (with_reducible repeat (first | refine blk_drewN ?_ _ | refine blk_drew ?_ | refine blk_alloc ?_ _)); exact (qK3 h0_ h1_)) hb))
              clear bK1
              clear bK2
              clear HB
              have bK1 := n0_
              have bK2 := n1_
              have HB := n2_
              clear n0_ n1_ n2_
              (try clear hb)
              (try clear hb2)
              (try clear hk)
              (try clear hi)
              refine hK.out _ _ ⟨g3, m5_, (by rw [ha.out]; exact putSel_upk 3 hb_ rfl rfl rfl), (kbx bK1), (kbx bK2), (hbx HB), zK3, qW3, qE3, qN1_3, qN3_1, qN2_3, qN3_2, fun h0_ => absurd ((hoff 6 (by kernel_rfl)).symm.trans h0_) (by decide), Q_X5_⟩
             refine steps_cons ?_ ?_
             ·rintro b a w' ⟨g3, m5_, ha, qK1, qK2, Q_HB, qK3, qW3, qE3, qN1_3, qN3_1, qN2_3, qN3_2, qK3_e6, Q_X5_⟩ hb_ hon hoff
              refine ⟨_, rfl, fun K hK => ?_⟩
              have e27 : a.tmps[27]? = some (.agg #[.int .i64 t646, .int .i64 t647, .int .i64 t648]) := by rw [ha]; exact putSel_on (e := (1, 27, .agg #[.int .i64 t646, .int .i64 t647, .int .i64 t648])) 1 rfl rfl (hon 1 (by kernel_rfl)) rfl
              have e29 : a.tmps[29]? = some (.agg #[.int .i64 t649, .int .i64 t650, .int .i64 t651]) := by rw [ha]; exact putSel_on (e := (3, 29, .agg #[.int .i64 t649, .int .i64 t650, .int .i64 t651])) 3 rfl rfl (hon 3 (by kernel_rfl)) rfl
              replace ha := Aside0.mk ha
              have bK1 := Aside0.mk qK1
              have bK2 := Aside0.mk qK2
              have HB := Aside0.mk Q_HB
              refine goes_ Try.func148 (by kernel_rfl) rfl #[.agg #[.int .i64 t646, .int .i64 t647, .int .i64 t648], .agg #[.int .i64 t649, .int .i64 t650, .int .i64 t651]] (by rfl) rfl rfl (by first | (simp only [List.map_toArray, List.map_cons, List.map_nil, Act.eval, Array.getD_eq_getD_getElem?, Option.getD_some, e27, e29]; done) | (simp only [List.map_toArray, List.map_cons, List.map_nil, Act.eval, Array.getD_eq_getD_getElem?, Option.getD_some, e27, e29]; rfl)) ?_
              with_reducible refine (impl_crossOf.calls t646 t647 t648 t649 t650 t651 t652 t653 t654 _ A20.out).mono ?_
              rintro e w47 ⟨rfl, hb⟩
              refine ⟨_, rfl, ?_⟩
              have n0_ := kb bK1 hb
              have n1_ := kb bK2 hb
              have n2_ := bt HB hb
              have zK3 := fun (h0_ : b 5 = true) (h1_ : b 6 = false) => (show w47.heap[g3]? = some (.cells #[.int .i64 0, .int .i64 0, .int .i64 0] 128 (0, 0)) from by first | exact (blk_below (g := g3) (o := .cells #[.int .i64 0, .int .i64 0, .int .i64 0] 128 (0, 0)) (by (with_reducible repeat (first | refine blk_drewN ?_ _ | refine blk_drew ?_ | refine blk_alloc ?_ _)); exact (qK3 h0_ h1_)) hb))
              clear bK1
              clear bK2
              clear HB
              have bK1 := n0_
              have bK2 := n1_
              have HB := n2_
              clear n0_ n1_ n2_
              (try clear hb)
              (try clear hb2)
              (try clear hk)
              (try clear hi)
              refine hK.out _ _ ⟨g3, m5_, (by rw [ha.out]; exact putSel_upk 4 hb_ rfl rfl rfl), (kbx bK1), (kbx bK2), (hbx HB), zK3, qW3, qE3, qN1_3, qN3_1, qN2_3, qN3_2, fun h0_ => absurd ((hoff 6 (by kernel_rfl)).symm.trans h0_) (by decide), Q_X5_⟩
             refine steps_cons ?_ ?_
             ·rintro b a w' ⟨g3, m5_, ha, qK1, qK2, Q_HB, qK3, qW3, qE3, qN1_3, qN3_1, qN2_3, qN3_2, qK3_e6, Q_X5_⟩ hb_ hon hoff
              refine ⟨_, rfl, fun K hK => ?_⟩
              replace ha := Aside0.mk ha
              have bK1 := Aside0.mk qK1
              have bK2 := Aside0.mk qK2
              have HB := Aside0.mk Q_HB
              refine box_step ?hg (N := 7) ?hd (cs := #[.int .i64 0, .int .i64 0, .int .i64 0]) (t := 128) ?hr ?_; (case hd => rfl); (case hg => rfl); (case hr => first | (go_simp; done) | (go_simp; rfl))
              intro g3 hg w44 hbox hb
              have n0_ := kb bK1 hb
              have n1_ := kb bK2 hb
              have n2_ := bt HB hb
              have n3_ := Aside0.mk (hbox)
              have n4_ := gx hg HB
              have n5_ := gx hg HB
              have n6_ := nl hg bK1
              have n7_ := nr hg bK1
              have n8_ := nl hg bK2
              have n9_ := nr hg bK2
              clear bK1
              clear bK2
              clear HB
              have bK1 := n0_
              have bK2 := n1_
              have HB := n2_
              have bK3 := n3_
              have bW3 := n4_
              have bE3 := n5_
              have bN1_3 := n6_
              have bN3_1 := n7_
              have bN2_3 := n8_
              have bN3_2 := n9_
              clear n0_ n1_ n2_ n3_ n4_ n5_ n6_ n7_ n8_ n9_
              clear hb hbox hg
              refine hK.out _ _ ⟨g3, (.pointer (some ⟨g3, 0, none⟩)), (by rw [ha.out]; exact putSel_upk 5 hb_ rfl rfl rfl), (kbx bK1), (kbx bK2), (hbx HB), fun _ _ => (kbx bK3), fun _ => bW3.out, fun _ => bE3.out, fun _ => bN1_3.out, fun _ => bN3_1.out, fun _ => bN2_3.out, fun _ => bN3_2.out, fun h0_ => absurd ((hoff 6 (by kernel_rfl)).symm.trans h0_) (by decide), fun _ => rfl⟩
             refine steps_cons ?_ ?_
             ·rintro b a w' ⟨g3, m5_, ha, qK1, qK2, Q_HB, qK3, qW3, qE3, qN1_3, qN3_1, qN2_3, qN3_2, qK3_e6, Q_X5_⟩ hb_ hon hoff
              refine ⟨_, rfl, fun K hK => ?_⟩
              have e7 : a.tmps[7]? = some (m5_) := by rw [ha]; exact putSel_on (e := (5, 7, m5_)) 5 rfl rfl (hon 5 (by kernel_rfl)) rfl
              rw [Q_X5_ (hon 5 (by kernel_rfl))] at e7
              have e30 : a.tmps[30]? = some (.agg #[.int .i64 t652, .int .i64 t653, .int .i64 t654]) := by rw [ha]; exact putSel_on (e := (4, 30, .agg #[.int .i64 t652, .int .i64 t653, .int .i64 t654])) 4 rfl rfl (hon 4 (by kernel_rfl)) rfl
              replace ha := Aside0.mk ha
              have bK1 := Aside0.mk qK1
              have bK2 := Aside0.mk qK2
              have HB := Aside0.mk Q_HB
              have bK3 := Aside0.mk (qK3 (hon 5 (by kernel_rfl)) hb_)
              have bW3 := Aside0.mk (qW3 (hon 5 (by kernel_rfl)))
              have bE3 := Aside0.mk (qE3 (hon 5 (by kernel_rfl)))
              have bN1_3 := Aside0.mk (qN1_3 (hon 5 (by kernel_rfl)))
              have bN3_1 := Aside0.mk (qN3_1 (hon 5 (by kernel_rfl)))
              have bN2_3 := Aside0.mk (qN2_3 (hon 5 (by kernel_rfl)))
              have bN3_2 := Aside0.mk (qN3_2 (hon 5 (by kernel_rfl)))
              have hs49 : w'.cell? ⟨g3, 0, none⟩ = some (.int .i64 0) := (blk_cell bK3.out 0).trans rfl
              have hfs49 := blk_frozen bK3.out 0
              have hns49_0 := bN1_3.out
              have hns49_1 := bN2_3.out
              have hms49_0 := bN3_1.out
              have hms49_1 := bN3_2.out
              have hs50 : w'.cell? ⟨g3, 1, none⟩ = some (.int .i64 0) := (blk_cell bK3.out 1).trans rfl
              have hfs50 := blk_frozen bK3.out 1
              have hns50_0 := bN1_3.out
              have hns50_1 := bN2_3.out
              have hms50_0 := bN3_1.out
              have hms50_1 := bN3_2.out
              have hs51 : w'.cell? ⟨g3, 2, none⟩ = some (.int .i64 0) := (blk_cell bK3.out 2).trans rfl
              have hfs51 := blk_frozen bK3.out 2
              have hns51_0 := bN1_3.out
              have hns51_1 := bN2_3.out
              have hms51_0 := bN3_1.out
              have hms51_1 := bN3_2.out
              refine skip_ (w1 := ?_) (by rfl) rfl ?_ ?_
              rotate_left
              ·go_simp
               rfl
              refine hK.out _ _ ⟨g3, m5_, (by rw [ha.out]; exact putSel_none (v := undef) rfl), (kfx bK1), (kfx bK2), (hbx HB), fun _ h1_ => absurd ((up_self b 6).symm.trans h1_) (by decide), fun _ => bW3.out, fun _ => bE3.out, fun _ => bN1_3.out, fun _ => bN3_1.out, fun _ => bN2_3.out, fun _ => bN3_2.out, fun _ => (by (with_reducible repeat (first | refine blk_drewN ?_ _ | refine blk_drew ?_ | refine blk_alloc ?_ _)); refine blk_put (cs := #[.int .i64 t652, .int .i64 t653, .int .i64 0]) ?_ 2 _ rfl; (with_reducible repeat (first | refine blk_drewN ?_ _ | refine blk_drew ?_ | refine blk_alloc ?_ _)); refine blk_put (cs := #[.int .i64 t652, .int .i64 0, .int .i64 0]) ?_ 1 _ rfl; (with_reducible repeat (first | refine blk_drewN ?_ _ | refine blk_drew ?_ | refine blk_alloc ?_ _)); refine blk_put (cs := #[.int .i64 0, .int .i64 0, .int .i64 0]) ?_ 0 _ rfl; (with_reducible repeat (first | refine blk_drewN ?_ _ | refine blk_drew ?_ | refine blk_alloc ?_ _)); exact bK3.out), Q_X5_⟩
             exact steps_nil
            rintro b a w51 hall ⟨g3, m5_, ha, qK1, qK2, Q_HB, qK3, qW3, qE3, qN1_3, qN3_1, qN2_3, qN3_2, qK3_e6, Q_X5_⟩
            clear bK1 bK2 HB
            have hb0_ := hall 0 (by kernel_rfl)
            have hb1_ := hall 1 (by kernel_rfl)
            have hb2_ := hall 2 (by kernel_rfl)
            have hb3_ := hall 3 (by kernel_rfl)
            have hb4_ := hall 4 (by kernel_rfl)
            have hb5_ := hall 5 (by kernel_rfl)
            have hb6_ := hall 6 (by kernel_rfl)
            subst ha
            obtain rfl := Q_X5_ hb5_
            simp only [putSel, hb0_, hb1_, hb2_, hb3_, hb4_, hb5_, hb6_, if_true, Act.put, List.setIfInBounds_toArray, List.set_cons_zero, List.set_cons_succ]
            have bK1 := Aside0.mk qK1
            clear qK1
            have bK2 := Aside0.mk qK2
            clear qK2
            have HB := Aside0.mk Q_HB
            clear Q_HB
            clear qK3
            have bW3 := Aside0.mk (qW3 hb5_)
            clear qW3
            have bE3 := Aside0.mk (qE3 hb5_)
            clear qE3
            have bN1_3 := Aside0.mk (qN1_3 hb5_)
            clear qN1_3
            have bN3_1 := Aside0.mk (qN3_1 hb5_)
            clear qN3_1
            have bN2_3 := Aside0.mk (qN2_3 hb5_)
            clear qN2_3
            have bN3_2 := Aside0.mk (qN3_2 hb5_)
            clear qN3_2
            have bK3 := Aside0.mk (qK3_e6 hb6_)
            clear qK3_e6
            clear hall hb0_ hb1_ hb2_ hb3_ hb4_ hb5_ hb6_
            have hnb52 := bN3_1.out
            have hnc52 := bN1_3.out
            have hnb53 := bN3_2.out
            have hnc53 := bN2_3.out
            obtain ⟨hcz54_0, hcz54_1, hcz54_2, hfz54_0, hfz54_1, hfz54_2⟩ := cz3 bK3
            go_upto_region 11 with (fail)
            go_cut [50] (fun v50 wc => ∃ (kq : Nat) (x50_37 : Bool), v50 = .bool x50_37 ∧ Aside0 (impl_bounded.j2 kq l0 l0 (l0.length : Int) x13_1 y640 (y640.length : Int) x22_2 x50_37 ((rd_T23 l0 x13_1).f0) ((rd_T23 l0 x13_1).f1) ((rd_T23 l0 x13_1).f2) ((rd_T23 l0 x13_1).f3) = some r) ∧ Aside0 (kq ≤ k2) ∧ Aside0 (wc.heap[g1]? = some (.cells #[.int .i64 ((rd_T23 l0 x13_1).f0), .int .i64 ((rd_T23 l0 x13_1).f1), .int .i64 ((rd_T23 l0 x13_1).f2), .int .i64 ((rd_T23 l0 x13_1).f3)] 23 (0, 0))) ∧ Aside0 (wc.heap[g2]? = some (.cells #[.int .i64 ((rd_T23 y640 x22_2).f0), .int .i64 ((rd_T23 y640 x22_2).f1), .int .i64 ((rd_T23 y640 x22_2).f2), .int .i64 ((rd_T23 y640 x22_2).f3)] 23 (0, 0))) ∧ Aside0 (wc.heap[g3]? = some (.cells #[.int .i64 t652, .int .i64 t653, .int .i64 t654] 128 (0, 0))) ∧ Aside0 (Below w.heap.size w wc))
            case first =>
             have H := HC38.out
             clear HC38
             obtain ⟨t656, A55, H⟩ := bi H
             by_cases c56 : t656 = true
             ·subst c56
              have H1 : (impl_bounded.j2 k2 l0 l0 (l0.length : Int) x13_1 y640 (y640.length : Int) x22_2 true ((rd_T23 l0 x13_1).f0) ((rd_T23 l0 x13_1).f1) ((rd_T23 l0 x13_1).f2) ((rd_T23 l0 x13_1).f3)) = some r := by rw [if_pos rfl] at H; exact H
              clear H
              have H := H1
              clear H1
              have H' := Aside0.mk H
              clear H
              have hnb57 := bN3_1.out
              have hnc57 := bN1_3.out
              have hnb58 := bN3_2.out
              have hnc58 := bN2_3.out
              obtain ⟨hcz59_0, hcz59_1, hcz59_2, hfz59_0, hfz59_1, hfz59_2⟩ := cz3 bK3
              go_wp2_with (first | ((with_reducible refine gate_callee (f := 150) rfl ?_); refine gL 36 Try.func150 #[.slice (some ad638) l0.length c0, .agg #[.int .i64 t652, .int .i64 t653, .int .i64 t654]] ?_; (with_reducible refine (impl_goesOn.calls k2 _ _ l0 t652 t653 t654 true _ ?side1 ?side2 A55.out).mono ?_); (case side1 => repeat (first | exact (Kd.C_below HR0.out HB.out) | (with_reducible refine Kd.C_alloc ?_ _) | (with_reducible refine Kd.C_drewN ?_ _) | (with_reducible refine Kd.C_drew ?_))); (case side2 => exact HC0.out); rintro e w60 ⟨rfl, hb⟩; refine ⟨_, rfl, ?_⟩; replace bK1 := kb bK1 hb; replace bK2 := kb bK2 hb; replace bK3 := kb bK3 hb; replace HB := bt HB hb; (try clear hb); (try clear hb2); (try clear hk); (try clear hi)))
              go_meet
              case rel => exact ⟨_, (true), re, H', ⟨by have := HK1.out; have := HK2.out; first | omega | exact Nat.le_refl _⟩, ⟨by (with_reducible repeat (first | refine blk_drewN ?_ _ | refine blk_drew ?_ | refine blk_alloc ?_ _)); exact bK1.out⟩, ⟨by (with_reducible repeat (first | refine blk_drewN ?_ _ | refine blk_drew ?_ | refine blk_alloc ?_ _)); exact bK2.out⟩, ⟨by (with_reducible repeat (first | refine blk_drewN ?_ _ | refine blk_drew ?_ | refine blk_alloc ?_ _)); exact bK3.out⟩, ⟨by repeat (first | (with_reducible first | exact HB.out | apply below_alloc | apply pw_below_drewN | apply below_drew1 | refine below_set ?_ bE1.out | refine below_set ?_ bE2.out | refine below_set ?_ bE3.out) | exact HB.out)⟩⟩
             replace c56 := Bool.eq_false_iff.mpr c56
             subst c56
             have H1 : ((impl_goesOn.f k2 l0 (wrap64 (-t652)) (wrap64 (-t653)) (wrap64 (-t654))).bind fun t657 => (impl_bounded.j2 k2 l0 l0 (l0.length : Int) x13_1 y640 (y640.length : Int) x22_2 t657 ((rd_T23 l0 x13_1).f0) ((rd_T23 l0 x13_1).f1) ((rd_T23 l0 x13_1).f2) ((rd_T23 l0 x13_1).f3))) = some r := by rw [if_neg (show ¬ (false = true) by decide)] at H; exact H
             clear H
             have H := H1
             clear H1
             obtain ⟨t657, A61, H⟩ := bi H
             have H' := Aside0.mk H
             clear H
             have hnb62 := bN3_1.out
             have hnc62 := bN1_3.out
             have hnb63 := bN3_2.out
             have hnc63 := bN2_3.out
             obtain ⟨hcz64_0, hcz64_1, hcz64_2, hfz64_0, hfz64_1, hfz64_2⟩ := cz3 bK3
             go_wp2_with (first | ((with_reducible refine gate_callee (f := 150) rfl ?_); refine gL 36 Try.func150 #[.slice (some ad638) l0.length c0, .agg #[.int .i64 t652, .int .i64 t653, .int .i64 t654]] ?_; (with_reducible refine (impl_goesOn.calls k2 _ _ l0 t652 t653 t654 false _ ?side1 ?side2 A55.out).mono ?_); (case side1 => repeat (first | exact (Kd.C_below HR0.out HB.out) | (with_reducible refine Kd.C_alloc ?_ _) | (with_reducible refine Kd.C_drewN ?_ _) | (with_reducible refine Kd.C_drew ?_))); (case side2 => exact HC0.out); rintro e w65 ⟨rfl, hb⟩; refine ⟨_, rfl, ?_⟩; replace bK1 := kb bK1 hb; replace bK2 := kb bK2 hb; replace bK3 := kb bK3 hb; replace HB := bt HB hb; (try clear hb); (try clear hb2); (try clear hk); (try clear hi); obtain ⟨hcz66_0, hcz66_1, hcz66_2, hfz66_0, hfz66_1, hfz66_2⟩ := cz3 bK3) | (go_at_call 150; (with_reducible refine (impl_goesOn.calls k2 _ _ l0 (wrap64 (-t652)) (wrap64 (-t653)) (wrap64 (-t654)) t657 _ ?side1 ?side2 A61.out).mono ?_); (case side1 => repeat (first | exact (Kd.C_below HR0.out HB.out) | (with_reducible refine Kd.C_alloc ?_ _) | (with_reducible refine Kd.C_drewN ?_ _) | (with_reducible refine Kd.C_drew ?_))); (case side2 => exact HC0.out); rintro e w67 ⟨rfl, hb⟩; replace bK1 := kb bK1 hb; replace bK2 := kb bK2 hb; replace bK3 := kb bK3 hb; replace HB := bt HB hb; (try clear hb); (try clear hb2); (try clear hk); (try clear hi)))
             go_meet
             case rel => exact ⟨_, (t657), re, H', ⟨by have := HK1.out; have := HK2.out; first | omega | exact Nat.le_refl _⟩, ⟨by (with_reducible repeat (first | refine blk_drewN ?_ _ | refine blk_drew ?_ | refine blk_alloc ?_ _)); exact bK1.out⟩, ⟨by (with_reducible repeat (first | refine blk_drewN ?_ _ | refine blk_drew ?_ | refine blk_alloc ?_ _)); exact bK2.out⟩, ⟨by (with_reducible repeat (first | refine blk_drewN ?_ _ | refine blk_drew ?_ | refine blk_alloc ?_ _)); exact bK3.out⟩, ⟨by repeat (first | (with_reducible first | exact HB.out | apply below_alloc | apply pw_below_drewN | apply below_drew1 | refine below_set ?_ bE1.out | refine below_set ?_ bE2.out | refine below_set ?_ bE3.out) | exact HB.out)⟩⟩
            case rest =>
             clear HC38
             obtain ⟨kq, x50_37, rfl, HA, HJ37, bK1, bK2, bK3, HB⟩ := hcut
             cases kq with
             | zero => exact absurd HA.out (by simp [impl_bounded.j2])
             | succ kj37 =>
              have H := HA.out
              clear HA
              simp only [impl_bounded.j2] at H
              by_cases c68 : x50_37 = true
              ·subst c68
               have H1 : (some false) = some r := by rw [if_pos rfl] at H; exact H
               clear H
               have H := H1
               clear H1
               obtain rfl := Option.some.inj H
               go_wp2
               go_ret
               exact fin HB
              replace c68 := Bool.eq_false_iff.mpr c68
              subst c68
              have H1 : (impl_bounded.l1 kj37 l0 l0 (l0.length : Int) x13_1 y640 (y640.length : Int) (wrap64 (x22_2 + 1)) ((rd_T23 l0 x13_1).f0) ((rd_T23 l0 x13_1).f1) ((rd_T23 l0 x13_1).f2) ((rd_T23 l0 x13_1).f3)) = some r := by rw [if_neg (show ¬ (false = true) by decide)] at H; exact H
              clear H
              have H := H1
              clear H1
              have H' := Aside0.mk H
              clear H
              go_wp2
              go_roundg kj37
              case measure => have := HK1.out; have := HK2.out; have := HJ37.out; omega
              case rel => exact ⟨(wrap64 (x22_2 + 1)), re, H', ⟨by have := HK1.out; have := HK2.out; have := HJ37.out; omega⟩, ⟨by (with_reducible repeat (first | refine blk_drewN ?_ _ | refine blk_drew ?_ | refine blk_alloc ?_ _)); exact bK1.out⟩, ⟨by repeat (first | (with_reducible first | exact HB.out | apply below_alloc | apply pw_below_drewN | apply below_drew1 | refine below_set ?_ bE1.out | refine below_set ?_ bE2.out | refine below_set ?_ bE3.out) | exact HB.out)⟩⟩
           rw [if_neg c17] at H
           exact absurd H (by simp)
          rw [if_neg c16] at H
          exact absurd H (by simp)
         rw [if_neg c15] at H
         have c15b0 : decide (x22_2 < (y640.length : Int)) = false := decide_eq_false c15
         clear c15
         have H' := Aside0.mk H
         clear H
         go_wp2
         go_roundg k2
         case measure => have := HK1.out; have := HK2.out; omega
         case rel => exact ⟨(wrap64 (x13_1 + 1)), re, H', ⟨by have := HK1.out; have := HK2.out; omega⟩, ⟨by repeat (first | (with_reducible first | exact HB.out | apply below_alloc | apply pw_below_drewN | apply below_drew1 | refine below_set ?_ bE1.out) | exact HB.out)⟩⟩
      rw [if_neg c10] at H
      exact absurd H (by simp)
     rw [if_neg c8] at H
     exact absurd H (by simp)
    rw [if_neg c7] at H
    exact absurd H (by simp)
   rw [if_neg c6] at H
   have c6b0 : decide (x13_1 < (l0.length : Int)) = false := decide_eq_false c6
   clear c6
   obtain rfl := Option.some.inj H
   go_wp2
   go_ret
   exact fin HB

end Go.Proofs.Ytndedincanmaeaa.Print
