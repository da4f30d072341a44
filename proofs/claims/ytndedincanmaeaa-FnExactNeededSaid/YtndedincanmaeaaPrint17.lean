-- Printed by a program of the session (mkprinter.py, over the kit's print); Lean checks it.
import Derived.Test.YtndedincanmaeaaCp
import Derived.Test.YtndedincanmaeaaPrint0
import Derived.Test.YtndedincanmaeaaPrint13
import Derived.Test.YtndedincanmaeaaPrint15
import Derived.Test.YtndedincanmaeaaPrint16
namespace Go.Proofs.Ytndedincanmaeaa.Print
open Go.RowKit Go.Proofs.YtndedincanmaeaaW.PrintWords Go.Proofs.YtndedincanmaeaaW.PrintLast Go.Proofs.Ytndedincanmaeaa.Cp
set_option linter.unusedVariables false
set_option linter.unusedSimpArgs false

/-! ### impl_room: function 137 -/
mutual
def impl_room.l0 : Nat → List (S23) → List (S23) → Int → Int → Int → Int → Int → Int → Option (Bool)
 | 0, _, _, _, _, _, _, _, _ => none
 | k + 1, x0, x11, x12, x13, x372000, x372001, x372002, x372003 => if x13 < x12 then (if 0 ≤ x13 then (if x13 < (x11.length : Int) then ((impl_clash2.f k ((rd_T23 x11 x13).f0) ((rd_T23 x11 x13).f1) ((rd_T23 x11 x13).f2) ((rd_T23 x11 x13).f3) x372000 x372001 x372002 x372003).bind fun t374 => (if t374 = true then (some false) else (if x13 ≤ (x0.length : Int) then ((some (x0.take (x13 : Int).toNat : List (S23))).bind fun y375 => (impl_room.l1 k x0 x11 x12 x13 y375 (y375.length : Int) 0 x372000 x372001 x372002 x372003 ((rd_T23 x11 x13).f0) ((rd_T23 x11 x13).f1) ((rd_T23 x11 x13).f2) ((rd_T23 x11 x13).f3))) else (none)))) else (none)) else (none)) else (some true)
def impl_room.l1 : Nat → List (S23) → List (S23) → Int → Int → List (S23) → Int → Int → Int → Int → Int → Int → Int → Int → Int → Int → Option (Bool)
 | 0, _, _, _, _, _, _, _, _, _, _, _, _, _, _, _ => none
 | k + 1, x0, x11, x12, x13, x23, x24, x25, x372000, x372001, x372002, x372003, x374000, x374001, x374002, x374003 => if x25 < x24 then (if 0 ≤ x25 then (if x25 < (x23.length : Int) then ((impl_clash3.f k ((rd_T23 x23 x25).f0) ((rd_T23 x23 x25).f1) ((rd_T23 x23 x25).f2) ((rd_T23 x23 x25).f3) x374000 x374001 x374002 x374003 x372000 x372001 x372002 x372003).bind fun t381 => (if t381 = true then (some false) else (if x25 ≤ (x0.length : Int) then ((some (x0.take (x25 : Int).toNat : List (S23))).bind fun y382 => (impl_room.l2 k x0 x11 x12 x13 x23 x24 x25 y382 (y382.length : Int) 0 x372000 x372001 x372002 x372003 x374000 x374001 x374002 x374003 ((rd_T23 x23 x25).f0) ((rd_T23 x23 x25).f1) ((rd_T23 x23 x25).f2) ((rd_T23 x23 x25).f3))) else (none)))) else (none)) else (none)) else (impl_room.l0 k x0 x11 x12 (wrap64 (x13 + 1)) x372000 x372001 x372002 x372003)
def impl_room.l2 : Nat → List (S23) → List (S23) → Int → Int → List (S23) → Int → Int → List (S23) → Int → Int → Int → Int → Int → Int → Int → Int → Int → Int → Int → Int → Int → Int → Option (Bool)
 | 0, _, _, _, _, _, _, _, _, _, _, _, _, _, _, _, _, _, _, _, _, _, _ => none
 | k + 1, x0, x11, x12, x13, x23, x24, x25, x36, x37, x38, x372000, x372001, x372002, x372003, x374000, x374001, x374002, x374003, x381000, x381001, x381002, x381003 => if x38 < x37 then (if 0 ≤ x38 then (if x38 < (x36.length : Int) then ((impl_clash4.f k ((rd_T23 x36 x38).f0) ((rd_T23 x36 x38).f1) ((rd_T23 x36 x38).f2) ((rd_T23 x36 x38).f3) x381000 x381001 x381002 x381003 x374000 x374001 x374002 x374003 x372000 x372001 x372002 x372003).bind fun t388 => (if t388 = true then (some false) else (impl_room.l2 k x0 x11 x12 x13 x23 x24 x25 x36 x37 (wrap64 (x38 + 1)) x372000 x372001 x372002 x372003 x374000 x374001 x374002 x374003 x381000 x381001 x381002 x381003))) else (none)) else (none)) else (impl_room.l1 k x0 x11 x12 x13 x23 x24 (wrap64 (x25 + 1)) x372000 x372001 x372002 x372003 x374000 x374001 x374002 x374003)
end
def impl_room.f (k : Nat) (l0 : List (S23)) (a1_0 : Int) (a1_1 : Int) (a1_2 : Int) (a1_3 : Int) : Option (Bool) := impl_room.l0 k l0 l0 (l0.length : Int) 0 a1_0 a1_1 a1_2 a1_3
theorem impl_room.mono_l : ∀ k, (∀ y0 y1 y2 y3 y4 y5 y6 y7, LeO (impl_room.l0 k y0 y1 y2 y3 y4 y5 y6 y7) (impl_room.l0 (k + 1) y0 y1 y2 y3 y4 y5 y6 y7)) ∧ (∀ y0 y1 y2 y3 y4 y5 y6 y7 y8 y9 y10 y11 y12 y13 y14, LeO (impl_room.l1 k y0 y1 y2 y3 y4 y5 y6 y7 y8 y9 y10 y11 y12 y13 y14) (impl_room.l1 (k + 1) y0 y1 y2 y3 y4 y5 y6 y7 y8 y9 y10 y11 y12 y13 y14)) ∧ (∀ y0 y1 y2 y3 y4 y5 y6 y7 y8 y9 y10 y11 y12 y13 y14 y15 y16 y17 y18 y19 y20 y21, LeO (impl_room.l2 k y0 y1 y2 y3 y4 y5 y6 y7 y8 y9 y10 y11 y12 y13 y14 y15 y16 y17 y18 y19 y20 y21) (impl_room.l2 (k + 1) y0 y1 y2 y3 y4 y5 y6 y7 y8 y9 y10 y11 y12 y13 y14 y15 y16 y17 y18 y19 y20 y21))
 | 0 => ⟨fun _ _ _ _ _ _ _ _ r h => by simp [impl_room.l0] at h, fun _ _ _ _ _ _ _ _ _ _ _ _ _ _ _ r h => by simp [impl_room.l1] at h, fun _ _ _ _ _ _ _ _ _ _ _ _ _ _ _ _ _ _ _ _ _ _ r h => by simp [impl_room.l2] at h⟩
 | k + 1 => by
  obtain ⟨ih0, ih1, ih2⟩ := impl_room.mono_l k
  refine ⟨?_, ?_, ?_⟩
  ·intro y0 y1 y2 y3 y4 y5 y6 y7
   unfold impl_room.l0
   repeat' first
   | (with_reducible exact ih0 _ _ _ _ _ _ _ _)
   | (with_reducible exact ih1 _ _ _ _ _ _ _ _ _ _ _ _ _ _ _)
   | (with_reducible exact ih2 _ _ _ _ _ _ _ _ _ _ _ _ _ _ _ _ _ _ _ _ _ _)
   | (with_reducible exact impl_clash2.mono _ _ _ _ _ _ _ _ _)
   | (with_reducible exact impl_clash3.mono _ _ _ _ _ _ _ _ _ _ _ _ _)
   | (with_reducible exact impl_clash4.mono _ _ _ _ _ _ _ _ _ _ _ _ _ _ _ _ _)
   | (with_reducible exact LeO.refl _)
   | (with_reducible exact LeO.none _)
   | (with_reducible refine LeO.ite ?_ ?_)
   | (with_reducible refine LeO.bind ?_ (fun _ => ?_))
   | exact ih0 _ _ _ _ _ _ _ _
   | exact ih1 _ _ _ _ _ _ _ _ _ _ _ _ _ _ _
   | exact ih2 _ _ _ _ _ _ _ _ _ _ _ _ _ _ _ _ _ _ _ _ _ _
   | exact impl_clash2.mono _ _ _ _ _ _ _ _ _
   | exact impl_clash3.mono _ _ _ _ _ _ _ _ _ _ _ _ _
   | exact impl_clash4.mono _ _ _ _ _ _ _ _ _ _ _ _ _ _ _ _ _
   | exact LeO.none _
   | refine LeO.ite ?_ ?_
   | refine LeO.bind ?_ (fun _ => ?_)
  ·intro y0 y1 y2 y3 y4 y5 y6 y7 y8 y9 y10 y11 y12 y13 y14
   unfold impl_room.l1
   repeat' first
   | (with_reducible exact ih0 _ _ _ _ _ _ _ _)
   | (with_reducible exact ih1 _ _ _ _ _ _ _ _ _ _ _ _ _ _ _)
   | (with_reducible exact ih2 _ _ _ _ _ _ _ _ _ _ _ _ _ _ _ _ _ _ _ _ _ _)
   | (with_reducible exact impl_clash2.mono _ _ _ _ _ _ _ _ _)
   | (with_reducible exact impl_clash3.mono _ _ _ _ _ _ _ _ _ _ _ _ _)
   | (with_reducible exact impl_clash4.mono _ _ _ _ _ _ _ _ _ _ _ _ _ _ _ _ _)
   | (with_reducible exact LeO.refl _)
   | (with_reducible exact LeO.none _)
   | (with_reducible refine LeO.ite ?_ ?_)
   | (with_reducible refine LeO.bind ?_ (fun _ => ?_))
   | exact ih0 _ _ _ _ _ _ _ _
   | exact ih1 _ _ _ _ _ _ _ _ _ _ _ _ _ _ _
   | exact ih2 _ _ _ _ _ _ _ _ _ _ _ _ _ _ _ _ _ _ _ _ _ _
   | exact impl_clash2.mono _ _ _ _ _ _ _ _ _
   | exact impl_clash3.mono _ _ _ _ _ _ _ _ _ _ _ _ _
   | exact impl_clash4.mono _ _ _ _ _ _ _ _ _ _ _ _ _ _ _ _ _
   | exact LeO.none _
   | refine LeO.ite ?_ ?_
   | refine LeO.bind ?_ (fun _ => ?_)
  intro y0 y1 y2 y3 y4 y5 y6 y7 y8 y9 y10 y11 y12 y13 y14 y15 y16 y17 y18 y19 y20 y21
  unfold impl_room.l2
  repeat' first
  | (with_reducible exact ih0 _ _ _ _ _ _ _ _)
  | (with_reducible exact ih1 _ _ _ _ _ _ _ _ _ _ _ _ _ _ _)
  | (with_reducible exact ih2 _ _ _ _ _ _ _ _ _ _ _ _ _ _ _ _ _ _ _ _ _ _)
  | (with_reducible exact impl_clash2.mono _ _ _ _ _ _ _ _ _)
  | (with_reducible exact impl_clash3.mono _ _ _ _ _ _ _ _ _ _ _ _ _)
  | (with_reducible exact impl_clash4.mono _ _ _ _ _ _ _ _ _ _ _ _ _ _ _ _ _)
  | (with_reducible exact LeO.refl _)
  | (with_reducible exact LeO.none _)
  | (with_reducible refine LeO.ite ?_ ?_)
  | (with_reducible refine LeO.bind ?_ (fun _ => ?_))
  | exact ih0 _ _ _ _ _ _ _ _
  | exact ih1 _ _ _ _ _ _ _ _ _ _ _ _ _ _ _
  | exact ih2 _ _ _ _ _ _ _ _ _ _ _ _ _ _ _ _ _ _ _ _ _ _
  | exact impl_clash2.mono _ _ _ _ _ _ _ _ _
  | exact impl_clash3.mono _ _ _ _ _ _ _ _ _ _ _ _ _
  | exact impl_clash4.mono _ _ _ _ _ _ _ _ _ _ _ _ _ _ _ _ _
  | exact LeO.none _
  | refine LeO.ite ?_ ?_
  | refine LeO.bind ?_ (fun _ => ?_)
theorem impl_room.mono : ∀ a0 a1 a2 a3 a4 k, LeO (impl_room.f k a0 a1 a2 a3 a4) (impl_room.f (k + 1) a0 a1 a2 a3 a4) := by
 intro a0 a1 a2 a3 a4 k
 obtain ⟨ih0, ih1, ih2⟩ := impl_room.mono_l k
 unfold impl_room.f
 repeat' first
   | (with_reducible exact ih0 _ _ _ _ _ _ _ _)
   | (with_reducible exact ih1 _ _ _ _ _ _ _ _ _ _ _ _ _ _ _)
   | (with_reducible exact ih2 _ _ _ _ _ _ _ _ _ _ _ _ _ _ _ _ _ _ _ _ _ _)
   | (with_reducible exact impl_clash2.mono _ _ _ _ _ _ _ _ _)
   | (with_reducible exact impl_clash3.mono _ _ _ _ _ _ _ _ _ _ _ _ _)
   | (with_reducible exact impl_clash4.mono _ _ _ _ _ _ _ _ _ _ _ _ _ _ _ _ _)
   | (with_reducible exact LeO.refl _)
   | (with_reducible exact LeO.none _)
   | (with_reducible refine LeO.ite ?_ ?_)
   | (with_reducible refine LeO.bind ?_ (fun _ => ?_))
   | exact ih0 _ _ _ _ _ _ _ _
   | exact ih1 _ _ _ _ _ _ _ _ _ _ _ _ _ _ _
   | exact ih2 _ _ _ _ _ _ _ _ _ _ _ _ _ _ _ _ _ _ _ _ _ _
   | exact impl_clash2.mono _ _ _ _ _ _ _ _ _
   | exact impl_clash3.mono _ _ _ _ _ _ _ _ _ _ _ _ _
   | exact impl_clash4.mono _ _ _ _ _ _ _ _ _ _ _ _ _ _ _ _ _
   | exact LeO.none _
   | refine LeO.ite ?_ ?_
   | refine LeO.bind ?_ (fun _ => ?_)
set_option maxHeartbeats 8000000 in
set_option maxRecDepth 100000 in
theorem impl_room.calls (k : Nat) (A0 : Option Addr) (c0 : Nat) (l0 : List (S23)) (a1_0 : Int) (a1_1 : Int) (a1_2 : Int) (a1_3 : Int) (r : Bool) (w : World) (hr0 : Kd.C k23 w A0 l0.length l0) (hc0 : l0.length ≤ c0) (h : impl_room.f k l0 a1_0 a1_1 a1_2 a1_3 = some r) :
  Calls Try.prog 137 #[.slice A0 l0.length c0, .agg #[.int .i64 a1_0, .int .i64 a1_1, .int .i64 a1_2, .int .i64 a1_3]] w fun e w' => e = .returned (.bool r) ∧ Below w.heap.size w w' := by
 have hu23 := Try.underlying23
 have HR0 := Aside0.mk hr0
 have HC0 := Aside0.mk hc0
 clear hr0 hc0
 have HB := Aside0.mk (Below.refl w.heap.size w)
 have H : (impl_room.l0 k l0 l0 (l0.length : Int) 0 a1_0 a1_1 a1_2 a1_3) = some r := h
 clear h
 have H' := Aside0.mk H
 clear H
 go_enter Try.func137, Try.ntmps137
 go_wp2_with (first | ((with_reducible refine gate_dst (N := 3) rfl ?_); refine box_event ?hg (N := 3) ?hd (cs := #[.int .i64 a1_0, .int .i64 a1_1, .int .i64 a1_2, .int .i64 a1_3]) (t := 23) ?hr ?_; (case hd => rfl); (case hg => rfl); (case hr => first | (go_simp; done) | (go_simp; rfl)); intro g1 hg w3 hbox hb; have bK1 := Aside0.mk (hbox); have bW1 := gx hg HB; have bE1 := gx hg HB; replace HB := bt HB hb; clear hb hbox hg))
 go_loopg [13] k (fun kq v13 w' => ∃ (x13_1 : Int), v13 = .int .i64 x13_1 ∧ Aside0 (impl_room.l0 kq l0 l0 (l0.length : Int) x13_1 a1_0 a1_1 a1_2 a1_3 = some r) ∧ Aside0 (kq ≤ k) ∧ Aside0 (w'.heap[g1]? = some (.cells #[.int .i64 a1_0, .int .i64 a1_1, .int .i64 a1_2, .int .i64 a1_3] 23 (0, 0))) ∧ Aside0 (Below w.heap.size w w'))
 case atStart => exact ⟨(0), re, H', ⟨Nat.le_refl _⟩, ⟨by (with_reducible repeat (first | refine blk_drewN ?_ _ | refine blk_drew ?_ | refine blk_alloc ?_ _)); exact bK1.out⟩, ⟨by repeat (first | (with_reducible first | exact HB.out | apply below_alloc | apply pw_below_drewN | apply below_drew1 | refine below_set ?_ bE1.out) | exact HB.out)⟩⟩
 case round =>
  clear H'
  obtain ⟨x13_1, rfl, HA, HK1, bK1, HB⟩ := hrel
  cases gk with
  | zero => exact absurd HA.out (by simp [impl_room.l0])
  | succ k1 =>
   have H := HA.out
   clear HA
   simp only [impl_room.l0] at H
   by_cases c4 : x13_1 < (l0.length : Int)
   ·rw [if_pos c4] at H
    have c4b0 : decide (x13_1 < (l0.length : Int)) = true := decide_eq_true c4
    clear c4
    by_cases c5 : 0 ≤ x13_1
    ·rw [if_pos c5] at H
     have c5b0 : decide (0 ≤ x13_1) = true := decide_eq_true c5
     clear c5
     by_cases c6 : x13_1 < (l0.length : Int)
     ·rw [if_pos c6] at H
      have c6b0 : decide (x13_1 < (l0.length : Int)) = true := decide_eq_true c6
      clear c6
      obtain ⟨t374, A7, H⟩ := bi H
      by_cases c8 : t374 = true
      ·subst c8
       have H1 : (some false) = some r := by rw [if_pos rfl] at H; exact H
       clear H
       have H := H1
       clear H1
       obtain rfl := Option.some.inj H
       have p372 : 0 ≤ (x13_1 : Int) := dk
       have q372 : x13_1 < (l0.length : Int) := dk
       obtain ⟨ad372, e372, hx372_0, hx372_1, hx372_2, hx372_3⟩ := at_T23 HR0.out x13_1 p372 q372
       cases e372
       replace hx372_0 := hc HB hx372_0
       replace hx372_1 := hc HB hx372_1
       replace hx372_2 := hc HB hx372_2
       replace hx372_3 := hc HB hx372_3
       replace p372 := eq_true p372
       replace q372 := eq_true q372
       go_wp2_with (first | ((with_reducible refine gate_dst (N := 6) rfl ?_); refine box_event ?hg (N := 6) ?hd (cs := #[.int .i64 0, .int .i64 0, .int .i64 0, .int .i64 0]) (t := 23) ?hr ?_; (case hd => rfl); (case hg => rfl); (case hr => first | (go_simp; done) | (go_simp; rfl)); intro g2 hg w9 hbox hb; have n0_ := kb bK1 hb; have n1_ := bt HB hb; have n2_ := Aside0.mk (hbox); have n3_ := gx hg HB; have n4_ := gx hg HB; have n5_ := nl hg bK1; have n6_ := nr hg bK1; clear bK1; clear HB; have bK1 := n0_; have HB := n1_; have bK2 := n2_; have bW2 := n3_; have bE2 := n4_; have bN1_2 := n5_; have bN2_1 := n6_; clear n0_ n1_ n2_ n3_ n4_ n5_ n6_; clear hb hbox hg; have hnb10 := bN2_1.out; have hnc10 := bN1_2.out; obtain ⟨hcz11_0, hcz11_1, hcz11_2, hcz11_3, hfz11_0, hfz11_1, hfz11_2, hfz11_3⟩ := cz4 bK2; obtain ⟨hcz12_0, hcz12_1, hcz12_2, hcz12_3, hfz12_0, hfz12_1, hfz12_2, hfz12_3⟩ := cz4 bK1) | ((with_reducible refine gate_callee (f := 164) rfl ?_); refine gL 20 Try.func164 #[.agg #[.int .i64 ((rd_T23 l0 x13_1).f0), .int .i64 ((rd_T23 l0 x13_1).f1), .int .i64 ((rd_T23 l0 x13_1).f2), .int .i64 ((rd_T23 l0 x13_1).f3)], .agg #[.int .i64 a1_0, .int .i64 a1_1, .int .i64 a1_2, .int .i64 a1_3]] ?_; (with_reducible refine (impl_clash2.calls k1 ((rd_T23 l0 x13_1).f0) ((rd_T23 l0 x13_1).f1) ((rd_T23 l0 x13_1).f2) ((rd_T23 l0 x13_1).f3) a1_0 a1_1 a1_2 a1_3 true _ A7.out).mono ?_); rintro e w13 ⟨rfl, hb⟩; refine ⟨_, rfl, ?_⟩; replace bK1 := kf bK1 hb; replace bK2 := kp #[.int .i64 ((rd_T23 l0 x13_1).f0), .int .i64 ((rd_T23 l0 x13_1).f1), .int .i64 ((rd_T23 l0 x13_1).f2), .int .i64 ((rd_T23 l0 x13_1).f3)] bK2 hb; replace HB := bt HB hb; (try clear hb); (try clear hb2); (try clear hk); (try clear hi)))
       go_ret
       exact fin HB
      replace c8 := Bool.eq_false_iff.mpr c8
      subst c8
      have H1 : (if x13_1 ≤ (l0.length : Int) then ((some (l0.take (x13_1 : Int).toNat : List (S23))).bind fun y375 => (impl_room.l1 k1 l0 l0 (l0.length : Int) x13_1 y375 (y375.length : Int) 0 a1_0 a1_1 a1_2 a1_3 ((rd_T23 l0 x13_1).f0) ((rd_T23 l0 x13_1).f1) ((rd_T23 l0 x13_1).f2) ((rd_T23 l0 x13_1).f3))) else (none)) = some r := by rw [if_neg (show ¬ (false = true) by decide)] at H; exact H
      clear H
      have H := H1
      clear H1
      have c14b0 := eq_true (dk : 0 ≤ x13_1)
      by_cases c15 : x13_1 ≤ (l0.length : Int)
      ·rw [if_pos c15] at H
       have c15b0 := eq_true c15
       have c15b1 : decide (x13_1 ≤ (l0.length : Int)) = true := decide_eq_true c15
       clear c15
       obtain ⟨y375, hy375⟩ : ∃ y_ : List (S23), y_ = (l0.take (x13_1 : Int).toNat) := ⟨_, rfl⟩
       replace H : (impl_room.l1 k1 l0 l0 (l0.length : Int) x13_1 y375 (y375.length : Int) 0 a1_0 a1_1 a1_2 a1_3 ((rd_T23 l0 x13_1).f0) ((rd_T23 l0 x13_1).f1) ((rd_T23 l0 x13_1).f2) ((rd_T23 l0 x13_1).f3)) = some r := by first | (rw [hy375]; with_reducible exact H) | (have H2_ := (Option.bind_some _ _).symm.trans H; rw [hy375]; with_reducible exact H2_) | (have H2_ := (Option.bind_some _ _).symm.trans H; with_reducible exact H2_) | with_reducible exact H | (rw [hy375]; exact H) | exact H
       have Ny375 := Aside0.mk hy375
       clear hy375
       have H' := Aside0.mk H
       clear H
       have p372 : 0 ≤ (x13_1 : Int) := dk
       have q372 : x13_1 < (l0.length : Int) := dk
       obtain ⟨ad372, e372, hx372_0, hx372_1, hx372_2, hx372_3⟩ := at_T23 HR0.out x13_1 p372 q372
       cases e372
       replace hx372_0 := hc HB hx372_0
       replace hx372_1 := hc HB hx372_1
       replace hx372_2 := hc HB hx372_2
       replace hx372_3 := hc HB hx372_3
       replace p372 := eq_true p372
       replace q372 := eq_true q372
       go_wp2_with (first | ((with_reducible refine gate_dst (N := 6) rfl ?_); refine box_event ?hg (N := 6) ?hd (cs := #[.int .i64 0, .int .i64 0, .int .i64 0, .int .i64 0]) (t := 23) ?hr ?_; (case hd => rfl); (case hg => rfl); (case hr => first | (go_simp; done) | (go_simp; rfl)); intro g2 hg w16 hbox hb; have n0_ := kb bK1 hb; have n1_ := bt HB hb; have n2_ := Aside0.mk (hbox); have n3_ := gx hg HB; have n4_ := gx hg HB; have n5_ := nl hg bK1; have n6_ := nr hg bK1; clear bK1; clear HB; have bK1 := n0_; have HB := n1_; have bK2 := n2_; have bW2 := n3_; have bE2 := n4_; have bN1_2 := n5_; have bN2_1 := n6_; clear n0_ n1_ n2_ n3_ n4_ n5_ n6_; clear hb hbox hg; have hnb17 := bN2_1.out; have hnc17 := bN1_2.out; obtain ⟨hcz18_0, hcz18_1, hcz18_2, hcz18_3, hfz18_0, hfz18_1, hfz18_2, hfz18_3⟩ := cz4 bK2; obtain ⟨hcz19_0, hcz19_1, hcz19_2, hcz19_3, hfz19_0, hfz19_1, hfz19_2, hfz19_3⟩ := cz4 bK1) | ((with_reducible refine gate_callee (f := 164) rfl ?_); refine gL 20 Try.func164 #[.agg #[.int .i64 ((rd_T23 l0 x13_1).f0), .int .i64 ((rd_T23 l0 x13_1).f1), .int .i64 ((rd_T23 l0 x13_1).f2), .int .i64 ((rd_T23 l0 x13_1).f3)], .agg #[.int .i64 a1_0, .int .i64 a1_1, .int .i64 a1_2, .int .i64 a1_3]] ?_; (with_reducible refine (impl_clash2.calls k1 ((rd_T23 l0 x13_1).f0) ((rd_T23 l0 x13_1).f1) ((rd_T23 l0 x13_1).f2) ((rd_T23 l0 x13_1).f3) a1_0 a1_1 a1_2 a1_3 false _ A7.out).mono ?_); rintro e w20 ⟨rfl, hb⟩; refine ⟨_, rfl, ?_⟩; replace bK1 := kf bK1 hb; replace bK2 := kp #[.int .i64 ((rd_T23 l0 x13_1).f0), .int .i64 ((rd_T23 l0 x13_1).f1), .int .i64 ((rd_T23 l0 x13_1).f2), .int .i64 ((rd_T23 l0 x13_1).f3)] bK2 hb; replace HB := bt HB hb; (try clear hb); (try clear hb2); (try clear hk); (try clear hi); have q21 : (x13_1 : Int) ≤ ((l0.length : Int) : Int) := dk; obtain ⟨i021, hi021, _, hsz21, _⟩ := info_parts info23; have hroom21 : l0.length ≤ c0 := HC0.out; have hC21 : Kd.C k23 _ (some ad372) l0.length l0 := HR0.out; have hcut21 := cut_to (P := Try.prog) 53 23 .i64 Try.underlying53 hi021 (some ad372) l0.length c0 x13_1 (dk) q21 hroom21; have hr21 := Kd.C_take (m := (x13_1 : Int).toNat) hC21 (by omega); have hy21 : y375.length = (x13_1 : Int).toNat := (by rw [Ny375.out, List.length_take]; omega); rw [← Ny375.out] at hr21; rw [← hy21] at hcut21; have HR378 := Aside0.mk hr21; have HC378 := Aside0.mk (show y375.length ≤ c0 from by omega); clear hr21 hC21 hroom21 hi021 hsz21; have KY21 := Aside0.mk hy21; clear hy21; replace q21 := eq_true q21))
       go_loopg [25] k1 (fun kq v25 w' => ∃ (x25_2 : Int), v25 = .int .i64 x25_2 ∧ Aside0 (impl_room.l1 kq l0 l0 (l0.length : Int) x13_1 y375 (y375.length : Int) x25_2 a1_0 a1_1 a1_2 a1_3 ((rd_T23 l0 x13_1).f0) ((rd_T23 l0 x13_1).f1) ((rd_T23 l0 x13_1).f2) ((rd_T23 l0 x13_1).f3) = some r) ∧ Aside0 (kq ≤ k1) ∧ Aside0 (w'.heap[g1]? = some (.cells #[.int .i64 a1_0, .int .i64 a1_1, .int .i64 a1_2, .int .i64 a1_3] 23 (0, 0))) ∧ Aside0 (w'.heap[g2]? = some (.cells #[.int .i64 ((rd_T23 l0 x13_1).f0), .int .i64 ((rd_T23 l0 x13_1).f1), .int .i64 ((rd_T23 l0 x13_1).f2), .int .i64 ((rd_T23 l0 x13_1).f3)] 23 (0, 0))) ∧ Aside0 (Below w.heap.size w w'))
       case atStart => exact ⟨(0), re, H', ⟨Nat.le_refl _⟩, ⟨by (with_reducible repeat (first | refine blk_drewN ?_ _ | refine blk_drew ?_ | refine blk_alloc ?_ _)); exact bK1.out⟩, ⟨by (with_reducible repeat (first | refine blk_drewN ?_ _ | refine blk_drew ?_ | refine blk_alloc ?_ _)); exact bK2.out⟩, ⟨by repeat (first | (with_reducible first | exact HB.out | apply below_alloc | apply pw_below_drewN | apply below_drew1 | refine below_set ?_ bE1.out | refine below_set ?_ bE2.out) | exact HB.out)⟩⟩
       case round =>
        clear H'
        obtain ⟨x25_2, rfl, HA, HK2, bK1, bK2, HB⟩ := hrel
        cases gk with
        | zero => exact absurd HA.out (by simp [impl_room.l1])
        | succ k2 =>
         have H := HA.out
         clear HA
         simp only [impl_room.l1] at H
         by_cases c22 : x25_2 < (y375.length : Int)
         ·rw [if_pos c22] at H
          have c22b0 : decide (x25_2 < (y375.length : Int)) = true := decide_eq_true c22
          clear c22
          by_cases c23 : 0 ≤ x25_2
          ·rw [if_pos c23] at H
           have c23b0 : decide (0 ≤ x25_2) = true := decide_eq_true c23
           clear c23
           by_cases c24 : x25_2 < (y375.length : Int)
           ·rw [if_pos c24] at H
            have c24b0 : decide (x25_2 < (y375.length : Int)) = true := decide_eq_true c24
            clear c24
            obtain ⟨t381, A25, H⟩ := bi H
            by_cases c26 : t381 = true
            ·subst c26
             have H1 : (some false) = some r := by rw [if_pos rfl] at H; exact H
             clear H
             have H := H1
             clear H1
             obtain rfl := Option.some.inj H
             have p379 : 0 ≤ (x25_2 : Int) := dk
             have q379 : x25_2 < (y375.length : Int) := dk
             obtain ⟨ad379, e379, hx379_0, hx379_1, hx379_2, hx379_3⟩ := at_T23 HR378.out x25_2 p379 q379
             obtain rfl : ad372 = ad379 := (by injection e379)
             replace hx379_0 := hc HB hx379_0
             replace hx379_1 := hc HB hx379_1
             replace hx379_2 := hc HB hx379_2
             replace hx379_3 := hc HB hx379_3
             replace p379 := eq_true p379
             replace q379 := eq_true q379
             go_wp2_with (first | ((with_reducible refine gate_dst (N := 8) rfl ?_); refine box_event ?hg (N := 8) ?hd (cs := #[.int .i64 0, .int .i64 0, .int .i64 0, .int .i64 0]) (t := 23) ?hr ?_; (case hd => rfl); (case hg => rfl); (case hr => first | (go_simp; done) | (go_simp; rfl)); intro g3 hg w27 hbox hb; have n0_ := kb bK1 hb; have n1_ := kb bK2 hb; have n2_ := bt HB hb; have n3_ := Aside0.mk (hbox); have n4_ := gx hg HB; have n5_ := gx hg HB; have n6_ := nl hg bK1; have n7_ := nr hg bK1; have n8_ := nl hg bK2; have n9_ := nr hg bK2; clear bK1; clear bK2; clear HB; have bK1 := n0_; have bK2 := n1_; have HB := n2_; have bK3 := n3_; have bW3 := n4_; have bE3 := n5_; have bN1_3 := n6_; have bN3_1 := n7_; have bN2_3 := n8_; have bN3_2 := n9_; clear n0_ n1_ n2_ n3_ n4_ n5_ n6_ n7_ n8_ n9_; clear hb hbox hg; have hnb28 := bN3_1.out; have hnc28 := bN1_3.out; have hnb29 := bN3_2.out; have hnc29 := bN2_3.out; obtain ⟨hcz30_0, hcz30_1, hcz30_2, hcz30_3, hfz30_0, hfz30_1, hfz30_2, hfz30_3⟩ := cz4 bK3; have hnb31 := bN2_1.out; have hnc31 := bN1_2.out; obtain ⟨hcz32_0, hcz32_1, hcz32_2, hcz32_3, hfz32_0, hfz32_1, hfz32_2, hfz32_3⟩ := cz4 bK2; obtain ⟨hcz33_0, hcz33_1, hcz33_2, hcz33_3, hfz33_0, hfz33_1, hfz33_2, hfz33_3⟩ := cz4 bK1) | ((with_reducible refine gate_callee (f := 165) rfl ?_); refine gL 33 Try.func165 #[.agg #[.int .i64 ((rd_T23 y375 x25_2).f0), .int .i64 ((rd_T23 y375 x25_2).f1), .int .i64 ((rd_T23 y375 x25_2).f2), .int .i64 ((rd_T23 y375 x25_2).f3)], .agg #[.int .i64 ((rd_T23 l0 x13_1).f0), .int .i64 ((rd_T23 l0 x13_1).f1), .int .i64 ((rd_T23 l0 x13_1).f2), .int .i64 ((rd_T23 l0 x13_1).f3)], .agg #[.int .i64 a1_0, .int .i64 a1_1, .int .i64 a1_2, .int .i64 a1_3]] ?_; (with_reducible refine (impl_clash3.calls k2 ((rd_T23 y375 x25_2).f0) ((rd_T23 y375 x25_2).f1) ((rd_T23 y375 x25_2).f2) ((rd_T23 y375 x25_2).f3) ((rd_T23 l0 x13_1).f0) ((rd_T23 l0 x13_1).f1) ((rd_T23 l0 x13_1).f2) ((rd_T23 l0 x13_1).f3) a1_0 a1_1 a1_2 a1_3 true _ A25.out).mono ?_); rintro e w34 ⟨rfl, hb⟩; refine ⟨_, rfl, ?_⟩; replace bK1 := kf bK1 hb; replace bK2 := kf bK2 hb; replace bK3 := kp #[.int .i64 ((rd_T23 y375 x25_2).f0), .int .i64 ((rd_T23 y375 x25_2).f1), .int .i64 ((rd_T23 y375 x25_2).f2), .int .i64 ((rd_T23 y375 x25_2).f3)] bK3 hb; replace HB := bt HB hb; (try clear hb); (try clear hb2); (try clear hk); (try clear hi)))
             go_ret
             exact fin HB
            replace c26 := Bool.eq_false_iff.mpr c26
            subst c26
            have H1 : (if x25_2 ≤ (l0.length : Int) then ((some (l0.take (x25_2 : Int).toNat : List (S23))).bind fun y382 => (impl_room.l2 k2 l0 l0 (l0.length : Int) x13_1 y375 (y375.length : Int) x25_2 y382 (y382.length : Int) 0 a1_0 a1_1 a1_2 a1_3 ((rd_T23 l0 x13_1).f0) ((rd_T23 l0 x13_1).f1) ((rd_T23 l0 x13_1).f2) ((rd_T23 l0 x13_1).f3) ((rd_T23 y375 x25_2).f0) ((rd_T23 y375 x25_2).f1) ((rd_T23 y375 x25_2).f2) ((rd_T23 y375 x25_2).f3))) else (none)) = some r := by rw [if_neg (show ¬ (false = true) by decide)] at H; exact H
            clear H
            have H := H1
            clear H1
            have c35b0 := eq_true (dk : 0 ≤ x25_2)
            by_cases c36 : x25_2 ≤ (l0.length : Int)
            ·rw [if_pos c36] at H
             have c36b0 := eq_true c36
             have c36b1 : decide (x25_2 ≤ (l0.length : Int)) = true := decide_eq_true c36
             clear c36
             obtain ⟨y382, hy382⟩ : ∃ y_ : List (S23), y_ = (l0.take (x25_2 : Int).toNat) := ⟨_, rfl⟩
             replace H : (impl_room.l2 k2 l0 l0 (l0.length : Int) x13_1 y375 (y375.length : Int) x25_2 y382 (y382.length : Int) 0 a1_0 a1_1 a1_2 a1_3 ((rd_T23 l0 x13_1).f0) ((rd_T23 l0 x13_1).f1) ((rd_T23 l0 x13_1).f2) ((rd_T23 l0 x13_1).f3) ((rd_T23 y375 x25_2).f0) ((rd_T23 y375 x25_2).f1) ((rd_T23 y375 x25_2).f2) ((rd_T23 y375 x25_2).f3)) = some r := by first | (rw [hy382]; with_reducible exact H) | (have H2_ := (Option.bind_some _ _).symm.trans H; rw [hy382]; with_reducible exact H2_) | (have H2_ := (Option.bind_some _ _).symm.trans H; with_reducible exact H2_) | with_reducible exact H | (rw [hy382]; exact H) | exact H
             have Ny382 := Aside0.mk hy382
             clear hy382
             have H' := Aside0.mk H
             clear H
             have p379 : 0 ≤ (x25_2 : Int) := dk
             have q379 : x25_2 < (y375.length : Int) := dk
             obtain ⟨ad379, e379, hx379_0, hx379_1, hx379_2, hx379_3⟩ := at_T23 HR378.out x25_2 p379 q379
             obtain rfl : ad372 = ad379 := (by injection e379)
             replace hx379_0 := hc HB hx379_0
             replace hx379_1 := hc HB hx379_1
             replace hx379_2 := hc HB hx379_2
             replace hx379_3 := hc HB hx379_3
             replace p379 := eq_true p379
             replace q379 := eq_true q379
             go_wp2_with (first | ((with_reducible refine gate_dst (N := 8) rfl ?_); refine box_event ?hg (N := 8) ?hd (cs := #[.int .i64 0, .int .i64 0, .int .i64 0, .int .i64 0]) (t := 23) ?hr ?_; (case hd => rfl); (case hg => rfl); (case hr => first | (go_simp; done) | (go_simp; rfl)); intro g3 hg w37 hbox hb; have n0_ := kb bK1 hb; have n1_ := kb bK2 hb; have n2_ := bt HB hb; have n3_ := Aside0.mk (hbox); have n4_ := gx hg HB; have n5_ := gx hg HB; have n6_ := nl hg bK1; have n7_ := nr hg bK1; have n8_ := nl hg bK2; have n9_ := nr hg bK2; clear bK1; clear bK2; clear HB; have bK1 := n0_; have bK2 := n1_; have HB := n2_; have bK3 := n3_; have bW3 := n4_; have bE3 := n5_; have bN1_3 := n6_; have bN3_1 := n7_; have bN2_3 := n8_; have bN3_2 := n9_; clear n0_ n1_ n2_ n3_ n4_ n5_ n6_ n7_ n8_ n9_; clear hb hbox hg; have hnb38 := bN3_1.out; have hnc38 := bN1_3.out; have hnb39 := bN3_2.out; have hnc39 := bN2_3.out; obtain ⟨hcz40_0, hcz40_1, hcz40_2, hcz40_3, hfz40_0, hfz40_1, hfz40_2, hfz40_3⟩ := cz4 bK3; have hnb41 := bN2_1.out; have hnc41 := bN1_2.out; obtain ⟨hcz42_0, hcz42_1, hcz42_2, hcz42_3, hfz42_0, hfz42_1, hfz42_2, hfz42_3⟩ := cz4 bK2; obtain ⟨hcz43_0, hcz43_1, hcz43_2, hcz43_3, hfz43_0, hfz43_1, hfz43_2, hfz43_3⟩ := cz4 bK1) | ((with_reducible refine gate_callee (f := 165) rfl ?_); refine gL 33 Try.func165 #[.agg #[.int .i64 ((rd_T23 y375 x25_2).f0), .int .i64 ((rd_T23 y375 x25_2).f1), .int .i64 ((rd_T23 y375 x25_2).f2), .int .i64 ((rd_T23 y375 x25_2).f3)], .agg #[.int .i64 ((rd_T23 l0 x13_1).f0), .int .i64 ((rd_T23 l0 x13_1).f1), .int .i64 ((rd_T23 l0 x13_1).f2), .int .i64 ((rd_T23 l0 x13_1).f3)], .agg #[.int .i64 a1_0, .int .i64 a1_1, .int .i64 a1_2, .int .i64 a1_3]] ?_; (with_reducible refine (impl_clash3.calls k2 ((rd_T23 y375 x25_2).f0) ((rd_T23 y375 x25_2).f1) ((rd_T23 y375 x25_2).f2) ((rd_T23 y375 x25_2).f3) ((rd_T23 l0 x13_1).f0) ((rd_T23 l0 x13_1).f1) ((rd_T23 l0 x13_1).f2) ((rd_T23 l0 x13_1).f3) a1_0 a1_1 a1_2 a1_3 false _ A25.out).mono ?_); rintro e w44 ⟨rfl, hb⟩; refine ⟨_, rfl, ?_⟩; replace bK1 := kf bK1 hb; replace bK2 := kf bK2 hb; replace bK3 := kp #[.int .i64 ((rd_T23 y375 x25_2).f0), .int .i64 ((rd_T23 y375 x25_2).f1), .int .i64 ((rd_T23 y375 x25_2).f2), .int .i64 ((rd_T23 y375 x25_2).f3)] bK3 hb; replace HB := bt HB hb; (try clear hb); (try clear hb2); (try clear hk); (try clear hi); have q45 : (x25_2 : Int) ≤ ((l0.length : Int) : Int) := dk; obtain ⟨i045, hi045, _, hsz45, _⟩ := info_parts info23; have hroom45 : l0.length ≤ c0 := HC0.out; have hC45 : Kd.C k23 _ (some ad372) l0.length l0 := HR0.out; have hcut45 := cut_to (P := Try.prog) 53 23 .i64 Try.underlying53 hi045 (some ad372) l0.length c0 x25_2 (dk) q45 hroom45; have hr45 := Kd.C_take (m := (x25_2 : Int).toNat) hC45 (by omega); have hy45 : y382.length = (x25_2 : Int).toNat := (by rw [Ny382.out, List.length_take]; omega); rw [← Ny382.out] at hr45; rw [← hy45] at hcut45; have HR385 := Aside0.mk hr45; have HC385 := Aside0.mk (show y382.length ≤ c0 from by omega); clear hr45 hC45 hroom45 hi045 hsz45; have KY45 := Aside0.mk hy45; clear hy45; replace q45 := eq_true q45))
             go_loopg [38] k2 (fun kq v38 w' => ∃ (x38_3 : Int), v38 = .int .i64 x38_3 ∧ Aside0 (impl_room.l2 kq l0 l0 (l0.length : Int) x13_1 y375 (y375.length : Int) x25_2 y382 (y382.length : Int) x38_3 a1_0 a1_1 a1_2 a1_3 ((rd_T23 l0 x13_1).f0) ((rd_T23 l0 x13_1).f1) ((rd_T23 l0 x13_1).f2) ((rd_T23 l0 x13_1).f3) ((rd_T23 y375 x25_2).f0) ((rd_T23 y375 x25_2).f1) ((rd_T23 y375 x25_2).f2) ((rd_T23 y375 x25_2).f3) = some r) ∧ Aside0 (kq ≤ k2) ∧ Aside0 (w'.heap[g1]? = some (.cells #[.int .i64 a1_0, .int .i64 a1_1, .int .i64 a1_2, .int .i64 a1_3] 23 (0, 0))) ∧ Aside0 (w'.heap[g2]? = some (.cells #[.int .i64 ((rd_T23 l0 x13_1).f0), .int .i64 ((rd_T23 l0 x13_1).f1), .int .i64 ((rd_T23 l0 x13_1).f2), .int .i64 ((rd_T23 l0 x13_1).f3)] 23 (0, 0))) ∧ Aside0 (w'.heap[g3]? = some (.cells #[.int .i64 ((rd_T23 y375 x25_2).f0), .int .i64 ((rd_T23 y375 x25_2).f1), .int .i64 ((rd_T23 y375 x25_2).f2), .int .i64 ((rd_T23 y375 x25_2).f3)] 23 (0, 0))) ∧ Aside0 (Below w.heap.size w w'))
             case atStart => exact ⟨(0), re, H', ⟨Nat.le_refl _⟩, ⟨by (with_reducible repeat (first | refine blk_drewN ?_ _ | refine blk_drew ?_ | refine blk_alloc ?_ _)); exact bK1.out⟩, ⟨by (with_reducible repeat (first | refine blk_drewN ?_ _ | refine blk_drew ?_ | refine blk_alloc ?_ _)); exact bK2.out⟩, ⟨by (with_reducible repeat (first | refine blk_drewN ?_ _ | refine blk_drew ?_ | refine blk_alloc ?_ _)); exact bK3.out⟩, ⟨by repeat (first | (with_reducible first | exact HB.out | apply below_alloc | apply pw_below_drewN | apply below_drew1 | refine below_set ?_ bE1.out | refine below_set ?_ bE2.out | refine below_set ?_ bE3.out) | exact HB.out)⟩⟩
             case round =>
              clear H'
              obtain ⟨x38_3, rfl, HA, HK3, bK1, bK2, bK3, HB⟩ := hrel
              cases gk with
              | zero => exact absurd HA.out (by simp [impl_room.l2])
              | succ k3 =>
               have H := HA.out
               clear HA
               simp only [impl_room.l2] at H
               by_cases c46 : x38_3 < (y382.length : Int)
               ·rw [if_pos c46] at H
                have c46b0 : decide (x38_3 < (y382.length : Int)) = true := decide_eq_true c46
                clear c46
                by_cases c47 : 0 ≤ x38_3
                ·rw [if_pos c47] at H
                 have c47b0 : decide (0 ≤ x38_3) = true := decide_eq_true c47
                 clear c47
                 by_cases c48 : x38_3 < (y382.length : Int)
                 ·rw [if_pos c48] at H
                  have c48b0 : decide (x38_3 < (y382.length : Int)) = true := decide_eq_true c48
                  clear c48
                  obtain ⟨t388, A49, H⟩ := bi H
                  by_cases c50 : t388 = true
                  ·subst c50
                   have H1 : (some false) = some r := by rw [if_pos rfl] at H; exact H
                   clear H
                   have H := H1
                   clear H1
                   obtain rfl := Option.some.inj H
                   have p386 : 0 ≤ (x38_3 : Int) := dk
                   have q386 : x38_3 < (y382.length : Int) := dk
                   obtain ⟨ad386, e386, hx386_0, hx386_1, hx386_2, hx386_3⟩ := at_T23 HR385.out x38_3 p386 q386
                   obtain rfl : ad372 = ad386 := (by injection e386)
                   replace hx386_0 := hc HB hx386_0
                   replace hx386_1 := hc HB hx386_1
                   replace hx386_2 := hc HB hx386_2
                   replace hx386_3 := hc HB hx386_3
                   replace p386 := eq_true p386
                   replace q386 := eq_true q386
                   go_wp2_with (first | ((with_reducible refine gate_dst (N := 10) rfl ?_); refine box_event ?hg (N := 10) ?hd (cs := #[.int .i64 0, .int .i64 0, .int .i64 0, .int .i64 0]) (t := 23) ?hr ?_; (case hd => rfl); (case hg => rfl); (case hr => first | (go_simp; done) | (go_simp; rfl)); intro g4 hg w51 hbox hb; have n0_ := kb bK1 hb; have n1_ := kb bK2 hb; have n2_ := kb bK3 hb; have n3_ := bt HB hb; have n4_ := Aside0.mk (hbox); have n5_ := gx hg HB; have n6_ := gx hg HB; have n7_ := nl hg bK1; have n8_ := nr hg bK1; have n9_ := nl hg bK2; have n10_ := nr hg bK2; have n11_ := nl hg bK3; have n12_ := nr hg bK3; clear bK1; clear bK2; clear bK3; clear HB; have bK1 := n0_; have bK2 := n1_; have bK3 := n2_; have HB := n3_; have bK4 := n4_; have bW4 := n5_; have bE4 := n6_; have bN1_4 := n7_; have bN4_1 := n8_; have bN2_4 := n9_; have bN4_2 := n10_; have bN3_4 := n11_; have bN4_3 := n12_; clear n0_ n1_ n2_ n3_ n4_ n5_ n6_ n7_ n8_ n9_ n10_ n11_ n12_; clear hb hbox hg; have hnb52 := bN4_1.out; have hnc52 := bN1_4.out; have hnb53 := bN4_2.out; have hnc53 := bN2_4.out; have hnb54 := bN4_3.out; have hnc54 := bN3_4.out; obtain ⟨hcz55_0, hcz55_1, hcz55_2, hcz55_3, hfz55_0, hfz55_1, hfz55_2, hfz55_3⟩ := cz4 bK4; have hnb56 := bN3_1.out; have hnc56 := bN1_3.out; have hnb57 := bN3_2.out; have hnc57 := bN2_3.out; obtain ⟨hcz58_0, hcz58_1, hcz58_2, hcz58_3, hfz58_0, hfz58_1, hfz58_2, hfz58_3⟩ := cz4 bK3; have hnb59 := bN2_1.out; have hnc59 := bN1_2.out; obtain ⟨hcz60_0, hcz60_1, hcz60_2, hcz60_3, hfz60_0, hfz60_1, hfz60_2, hfz60_3⟩ := cz4 bK2; obtain ⟨hcz61_0, hcz61_1, hcz61_2, hcz61_3, hfz61_0, hfz61_1, hfz61_2, hfz61_3⟩ := cz4 bK1) | ((with_reducible refine gate_callee (f := 166) rfl ?_); refine gL 46 Try.func166 #[.agg #[.int .i64 ((rd_T23 y382 x38_3).f0), .int .i64 ((rd_T23 y382 x38_3).f1), .int .i64 ((rd_T23 y382 x38_3).f2), .int .i64 ((rd_T23 y382 x38_3).f3)], .agg #[.int .i64 ((rd_T23 y375 x25_2).f0), .int .i64 ((rd_T23 y375 x25_2).f1), .int .i64 ((rd_T23 y375 x25_2).f2), .int .i64 ((rd_T23 y375 x25_2).f3)], .agg #[.int .i64 ((rd_T23 l0 x13_1).f0), .int .i64 ((rd_T23 l0 x13_1).f1), .int .i64 ((rd_T23 l0 x13_1).f2), .int .i64 ((rd_T23 l0 x13_1).f3)], .agg #[.int .i64 a1_0, .int .i64 a1_1, .int .i64 a1_2, .int .i64 a1_3]] ?_; (with_reducible refine (impl_clash4.calls k3 ((rd_T23 y382 x38_3).f0) ((rd_T23 y382 x38_3).f1) ((rd_T23 y382 x38_3).f2) ((rd_T23 y382 x38_3).f3) ((rd_T23 y375 x25_2).f0) ((rd_T23 y375 x25_2).f1) ((rd_T23 y375 x25_2).f2) ((rd_T23 y375 x25_2).f3) ((rd_T23 l0 x13_1).f0) ((rd_T23 l0 x13_1).f1) ((rd_T23 l0 x13_1).f2) ((rd_T23 l0 x13_1).f3) a1_0 a1_1 a1_2 a1_3 true _ A49.out).mono ?_); rintro e w62 ⟨rfl, hb⟩; refine ⟨_, rfl, ?_⟩; replace bK1 := kf bK1 hb; replace bK2 := kf bK2 hb; replace bK3 := kf bK3 hb; replace bK4 := kp #[.int .i64 ((rd_T23 y382 x38_3).f0), .int .i64 ((rd_T23 y382 x38_3).f1), .int .i64 ((rd_T23 y382 x38_3).f2), .int .i64 ((rd_T23 y382 x38_3).f3)] bK4 hb; replace HB := bt HB hb; (try clear hb); (try clear hb2); (try clear hk); (try clear hi)))
                   go_ret
                   exact fin HB
                  replace c50 := Bool.eq_false_iff.mpr c50
                  subst c50
                  have H1 : (impl_room.l2 k3 l0 l0 (l0.length : Int) x13_1 y375 (y375.length : Int) x25_2 y382 (y382.length : Int) (wrap64 (x38_3 + 1)) a1_0 a1_1 a1_2 a1_3 ((rd_T23 l0 x13_1).f0) ((rd_T23 l0 x13_1).f1) ((rd_T23 l0 x13_1).f2) ((rd_T23 l0 x13_1).f3) ((rd_T23 y375 x25_2).f0) ((rd_T23 y375 x25_2).f1) ((rd_T23 y375 x25_2).f2) ((rd_T23 y375 x25_2).f3)) = some r := by rw [if_neg (show ¬ (false = true) by decide)] at H; exact H
                  clear H
                  have H := H1
                  clear H1
                  have H' := Aside0.mk H
                  clear H
                  have p386 : 0 ≤ (x38_3 : Int) := dk
                  have q386 : x38_3 < (y382.length : Int) := dk
                  obtain ⟨ad386, e386, hx386_0, hx386_1, hx386_2, hx386_3⟩ := at_T23 HR385.out x38_3 p386 q386
                  obtain rfl : ad372 = ad386 := (by injection e386)
                  replace hx386_0 := hc HB hx386_0
                  replace hx386_1 := hc HB hx386_1
                  replace hx386_2 := hc HB hx386_2
                  replace hx386_3 := hc HB hx386_3
                  replace p386 := eq_true p386
                  replace q386 := eq_true q386
                  go_wp2_with (first | ((with_reducible refine gate_dst (N := 10) rfl ?_); refine box_event ?hg (N := 10) ?hd (cs := #[.int .i64 0, .int .i64 0, .int .i64 0, .int .i64 0]) (t := 23) ?hr ?_; (case hd => rfl); (case hg => rfl); (case hr => first | (go_simp; done) | (go_simp; rfl)); intro g4 hg w63 hbox hb; have n0_ := kb bK1 hb; have n1_ := kb bK2 hb; have n2_ := kb bK3 hb; have n3_ := bt HB hb; have n4_ := Aside0.mk (hbox); have n5_ := gx hg HB; have n6_ := gx hg HB; have n7_ := nl hg bK1; have n8_ := nr hg bK1; have n9_ := nl hg bK2; have n10_ := nr hg bK2; have n11_ := nl hg bK3; have n12_ := nr hg bK3; clear bK1; clear bK2; clear bK3; clear HB; have bK1 := n0_; have bK2 := n1_; have bK3 := n2_; have HB := n3_; have bK4 := n4_; have bW4 := n5_; have bE4 := n6_; have bN1_4 := n7_; have bN4_1 := n8_; have bN2_4 := n9_; have bN4_2 := n10_; have bN3_4 := n11_; have bN4_3 := n12_; clear n0_ n1_ n2_ n3_ n4_ n5_ n6_ n7_ n8_ n9_ n10_ n11_ n12_; clear hb hbox hg; have hnb64 := bN4_1.out; have hnc64 := bN1_4.out; have hnb65 := bN4_2.out; have hnc65 := bN2_4.out; have hnb66 := bN4_3.out; have hnc66 := bN3_4.out; obtain ⟨hcz67_0, hcz67_1, hcz67_2, hcz67_3, hfz67_0, hfz67_1, hfz67_2, hfz67_3⟩ := cz4 bK4; have hnb68 := bN3_1.out; have hnc68 := bN1_3.out; have hnb69 := bN3_2.out; have hnc69 := bN2_3.out; obtain ⟨hcz70_0, hcz70_1, hcz70_2, hcz70_3, hfz70_0, hfz70_1, hfz70_2, hfz70_3⟩ := cz4 bK3; have hnb71 := bN2_1.out; have hnc71 := bN1_2.out; obtain ⟨hcz72_0, hcz72_1, hcz72_2, hcz72_3, hfz72_0, hfz72_1, hfz72_2, hfz72_3⟩ := cz4 bK2; obtain ⟨hcz73_0, hcz73_1, hcz73_2, hcz73_3, hfz73_0, hfz73_1, hfz73_2, hfz73_3⟩ := cz4 bK1) | ((with_reducible refine gate_callee (f := 166) rfl ?_); refine gL 46 Try.func166 #[.agg #[.int .i64 ((rd_T23 y382 x38_3).f0), .int .i64 ((rd_T23 y382 x38_3).f1), .int .i64 ((rd_T23 y382 x38_3).f2), .int .i64 ((rd_T23 y382 x38_3).f3)], .agg #[.int .i64 ((rd_T23 y375 x25_2).f0), .int .i64 ((rd_T23 y375 x25_2).f1), .int .i64 ((rd_T23 y375 x25_2).f2), .int .i64 ((rd_T23 y375 x25_2).f3)], .agg #[.int .i64 ((rd_T23 l0 x13_1).f0), .int .i64 ((rd_T23 l0 x13_1).f1), .int .i64 ((rd_T23 l0 x13_1).f2), .int .i64 ((rd_T23 l0 x13_1).f3)], .agg #[.int .i64 a1_0, .int .i64 a1_1, .int .i64 a1_2, .int .i64 a1_3]] ?_; (with_reducible refine (impl_clash4.calls k3 ((rd_T23 y382 x38_3).f0) ((rd_T23 y382 x38_3).f1) ((rd_T23 y382 x38_3).f2) ((rd_T23 y382 x38_3).f3) ((rd_T23 y375 x25_2).f0) ((rd_T23 y375 x25_2).f1) ((rd_T23 y375 x25_2).f2) ((rd_T23 y375 x25_2).f3) ((rd_T23 l0 x13_1).f0) ((rd_T23 l0 x13_1).f1) ((rd_T23 l0 x13_1).f2) ((rd_T23 l0 x13_1).f3) a1_0 a1_1 a1_2 a1_3 false _ A49.out).mono ?_); rintro e w74 ⟨rfl, hb⟩; refine ⟨_, rfl, ?_⟩; replace bK1 := kf bK1 hb; replace bK2 := kf bK2 hb; replace bK3 := kf bK3 hb; replace bK4 := kp #[.int .i64 ((rd_T23 y382 x38_3).f0), .int .i64 ((rd_T23 y382 x38_3).f1), .int .i64 ((rd_T23 y382 x38_3).f2), .int .i64 ((rd_T23 y382 x38_3).f3)] bK4 hb; replace HB := bt HB hb; (try clear hb); (try clear hb2); (try clear hk); (try clear hi)))
                  go_roundg k3
                  case measure => have := HK1.out; have := HK2.out; have := HK3.out; omega
                  case rel => exact ⟨(wrap64 (x38_3 + 1)), re, H', ⟨by have := HK1.out; have := HK2.out; have := HK3.out; omega⟩, ⟨by (with_reducible repeat (first | refine blk_drewN ?_ _ | refine blk_drew ?_ | refine blk_alloc ?_ _)); exact bK1.out⟩, ⟨by (with_reducible repeat (first | refine blk_drewN ?_ _ | refine blk_drew ?_ | refine blk_alloc ?_ _)); exact bK2.out⟩, ⟨by (with_reducible repeat (first | refine blk_drewN ?_ _ | refine blk_drew ?_ | refine blk_alloc ?_ _)); exact bK3.out⟩, ⟨by repeat (first | (with_reducible first | exact HB.out | apply below_alloc | apply pw_below_drewN | apply below_drew1 | refine below_set ?_ bE1.out | refine below_set ?_ bE2.out | refine below_set ?_ bE3.out | refine below_set ?_ bE4.out) | exact HB.out)⟩⟩
                 rw [if_neg c48] at H
                 exact absurd H (by simp)
                rw [if_neg c47] at H
                exact absurd H (by simp)
               rw [if_neg c46] at H
               have c46b0 : decide (x38_3 < (y382.length : Int)) = false := decide_eq_false c46
               clear c46
               have H' := Aside0.mk H
               clear H
               go_wp2
               go_roundg k3
               case measure => have := HK1.out; have := HK2.out; have := HK3.out; omega
               case rel => exact ⟨(wrap64 (x25_2 + 1)), re, H', ⟨by have := HK1.out; have := HK2.out; have := HK3.out; omega⟩, ⟨by (with_reducible repeat (first | refine blk_drewN ?_ _ | refine blk_drew ?_ | refine blk_alloc ?_ _)); exact bK1.out⟩, ⟨by (with_reducible repeat (first | refine blk_drewN ?_ _ | refine blk_drew ?_ | refine blk_alloc ?_ _)); exact bK2.out⟩, ⟨by repeat (first | (with_reducible first | exact HB.out | apply below_alloc | apply pw_below_drewN | apply below_drew1 | refine below_set ?_ bE1.out | refine below_set ?_ bE2.out | refine below_set ?_ bE3.out) | exact HB.out)⟩⟩
            rw [if_neg c36] at H
            exact absurd H (by simp)
           rw [if_neg c24] at H
           exact absurd H (by simp)
          rw [if_neg c23] at H
          exact absurd H (by simp)
         rw [if_neg c22] at H
         have c22b0 : decide (x25_2 < (y375.length : Int)) = false := decide_eq_false c22
         clear c22
         have H' := Aside0.mk H
         clear H
         go_wp2
         go_roundg k2
         case measure => have := HK1.out; have := HK2.out; omega
         case rel => exact ⟨(wrap64 (x13_1 + 1)), re, H', ⟨by have := HK1.out; have := HK2.out; omega⟩, ⟨by (with_reducible repeat (first | refine blk_drewN ?_ _ | refine blk_drew ?_ | refine blk_alloc ?_ _)); exact bK1.out⟩, ⟨by repeat (first | (with_reducible first | exact HB.out | apply below_alloc | apply pw_below_drewN | apply below_drew1 | refine below_set ?_ bE1.out | refine below_set ?_ bE2.out) | exact HB.out)⟩⟩
      rw [if_neg c15] at H
      exact absurd H (by simp)
     rw [if_neg c6] at H
     exact absurd H (by simp)
    rw [if_neg c5] at H
    exact absurd H (by simp)
   rw [if_neg c4] at H
   have c4b0 : decide (x13_1 < (l0.length : Int)) = false := decide_eq_false c4
   clear c4
   obtain rfl := Option.some.inj H
   go_wp2
   go_ret
   exact fin HB

end Go.Proofs.Ytndedincanmaeaa.Print
