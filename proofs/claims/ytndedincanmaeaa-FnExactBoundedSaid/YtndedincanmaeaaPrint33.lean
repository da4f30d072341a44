-- Printed by a program of the session (mkprinter.py, over the kit's print); Lean checks it.
import Derived.Test.YtndedincanmaeaaCp
import Derived.Test.YtndedincanmaeaaPrint0
import Derived.Test.YtndedincanmaeaaPrint2
import Derived.Test.YtndedincanmaeaaPrint11
import Derived.Test.YtndedincanmaeaaPrint14
import Derived.Test.YtndedincanmaeaaPrint32
namespace Go.Proofs.Ytndedincanmaeaa.Print
open Go.RowKit Go.Proofs.YtndedincanmaeaaW.PrintWords Go.Proofs.YtndedincanmaeaaW.PrintLast Go.Proofs.Ytndedincanmaeaa.Cp
set_option linter.unusedVariables false
set_option linter.unusedSimpArgs false

attribute [local go_sem high] eqA128
/-! ### impl_Rank: function 147 -/
mutual
def impl_Rank.l0 : Nat → Int → List (S23) → Int → Int → Int → Int → Int → Int → Int → Int → Option (Int)
 | 0, _, _, _, _, _, _, _, _, _, _ => none
 | k + 1, x4, x8, x9, x10, x616000, x616001, x616002, x616003, x616004, x616005 => if x10 < x9 then (if 0 ≤ x10 then (if x10 < (x8.length : Int) then ((impl_taken.f k ((rd_T23 x8 x10).f0) ((rd_T23 x8 x10).f1) ((rd_T23 x8 x10).f2) ((rd_T23 x8 x10).f3)).bind fun bt618 => ((impl_normal.f bt618.1 bt618.2.1 bt618.2.2.1 bt618.2.2.2).bind fun bt622 => (if x4 = 0 then (impl_Rank.j1 k x4 x8 x9 x10 (!(bt622.1 == 0) || (!(bt622.2.1 == 0) || (!(bt622.2.2 == 0)))) x616000 x616001 x616002 x616003 x616004 x616005 bt622.1 bt622.2.1 bt622.2.2) else (impl_Rank.j1 k x4 x8 x9 x10 false x616000 x616001 x616002 x616003 x616004 x616005 bt622.1 bt622.2.1 bt622.2.2)))) else (none)) else (none)) else (some x4)
def impl_Rank.j1 : Nat → Int → List (S23) → Int → Int → Bool → Int → Int → Int → Int → Int → Int → Int → Int → Int → Option (Int)
 | 0, _, _, _, _, _, _, _, _, _, _, _, _, _, _ => none
 | k + 1, x4, x8, x9, x10, x17, x616000, x616001, x616002, x616003, x616004, x616005, x626000, x626001, x626002 => if x17 = true then (impl_Rank.l0 k 1 x8 x9 (wrap64 (x10 + 1)) x626000 x626001 x626002 x616003 x616004 x616005) else (if x4 = 1 then ((impl_crossOf.f x616000 x616001 x616002 x626000 x626001 x626002).bind fun bt626 => (impl_Rank.j2 k x4 x8 x9 x10 (!(bt626.1 == 0) || (!(bt626.2.1 == 0) || (!(bt626.2.2 == 0)))) x616000 x616001 x616002 x616003 x616004 x616005 x626000 x626001 x626002)) else (impl_Rank.j2 k x4 x8 x9 x10 false x616000 x616001 x616002 x616003 x616004 x616005 x626000 x626001 x626002))
def impl_Rank.j2 : Nat → Int → List (S23) → Int → Int → Bool → Int → Int → Int → Int → Int → Int → Int → Int → Int → Option (Int)
 | 0, _, _, _, _, _, _, _, _, _, _, _, _, _, _ => none
 | k + 1, x4, x8, x9, x10, x27, x616000, x616001, x616002, x616003, x616004, x616005, x626000, x626001, x626002 => if x27 = true then (impl_Rank.l0 k 2 x8 x9 (wrap64 (x10 + 1)) x616000 x616001 x616002 x626000 x626001 x626002) else (if x4 = 2 then ((impl_det.f x616000 x616001 x616002 x616003 x616004 x616005 x626000 x626001 x626002).bind fun t629 => (impl_Rank.j3 k x4 x8 x9 x10 (t629 != 0) x616000 x616001 x616002 x616003 x616004 x616005)) else (impl_Rank.j3 k x4 x8 x9 x10 false x616000 x616001 x616002 x616003 x616004 x616005))
def impl_Rank.j3 : Nat → Int → List (S23) → Int → Int → Bool → Int → Int → Int → Int → Int → Int → Option (Int)
 | 0, _, _, _, _, _, _, _, _, _, _, _ => none
 | k + 1, x4, x8, x9, x10, x40, x616000, x616001, x616002, x616003, x616004, x616005 => if x40 = true then (some 3) else (impl_Rank.l0 k x4 x8 x9 (wrap64 (x10 + 1)) x616000 x616001 x616002 x616003 x616004 x616005)
end
def impl_Rank.f (k : Nat) (l0 : List (S23)) : Option (Int) := impl_Rank.l0 k 0 l0 (l0.length : Int) 0 0 0 0 0 0 0
theorem impl_Rank.mono_l : ∀ k, (∀ y0 y1 y2 y3 y4 y5 y6 y7 y8 y9, LeO (impl_Rank.l0 k y0 y1 y2 y3 y4 y5 y6 y7 y8 y9) (impl_Rank.l0 (k + 1) y0 y1 y2 y3 y4 y5 y6 y7 y8 y9)) ∧ (∀ y0 y1 y2 y3 y4 y5 y6 y7 y8 y9 y10 y11 y12 y13, LeO (impl_Rank.j1 k y0 y1 y2 y3 y4 y5 y6 y7 y8 y9 y10 y11 y12 y13) (impl_Rank.j1 (k + 1) y0 y1 y2 y3 y4 y5 y6 y7 y8 y9 y10 y11 y12 y13)) ∧ (∀ y0 y1 y2 y3 y4 y5 y6 y7 y8 y9 y10 y11 y12 y13, LeO (impl_Rank.j2 k y0 y1 y2 y3 y4 y5 y6 y7 y8 y9 y10 y11 y12 y13) (impl_Rank.j2 (k + 1) y0 y1 y2 y3 y4 y5 y6 y7 y8 y9 y10 y11 y12 y13)) ∧ (∀ y0 y1 y2 y3 y4 y5 y6 y7 y8 y9 y10, LeO (impl_Rank.j3 k y0 y1 y2 y3 y4 y5 y6 y7 y8 y9 y10) (impl_Rank.j3 (k + 1) y0 y1 y2 y3 y4 y5 y6 y7 y8 y9 y10))
 | 0 => ⟨fun _ _ _ _ _ _ _ _ _ _ r h => by simp [impl_Rank.l0] at h, fun _ _ _ _ _ _ _ _ _ _ _ _ _ _ r h => by simp [impl_Rank.j1] at h, fun _ _ _ _ _ _ _ _ _ _ _ _ _ _ r h => by simp [impl_Rank.j2] at h, fun _ _ _ _ _ _ _ _ _ _ _ r h => by simp [impl_Rank.j3] at h⟩
 | k + 1 => by
  obtain ⟨ih0, ih1, ih2, ih3⟩ := impl_Rank.mono_l k
  refine ⟨?_, ?_, ?_, ?_⟩
  ·intro y0 y1 y2 y3 y4 y5 y6 y7 y8 y9
   unfold impl_Rank.l0
   repeat' first
   | (with_reducible exact ih0 _ _ _ _ _ _ _ _ _ _)
   | (with_reducible exact ih1 _ _ _ _ _ _ _ _ _ _ _ _ _ _)
   | (with_reducible exact ih2 _ _ _ _ _ _ _ _ _ _ _ _ _ _)
   | (with_reducible exact ih3 _ _ _ _ _ _ _ _ _ _ _)
   | (with_reducible exact impl_taken.mono _ _ _ _ _)
   | (with_reducible exact LeO.refl _)
   | (with_reducible exact LeO.none _)
   | (with_reducible refine LeO.ite ?_ ?_)
   | (with_reducible refine LeO.bind ?_ (fun _ => ?_))
   | exact ih0 _ _ _ _ _ _ _ _ _ _
   | exact ih1 _ _ _ _ _ _ _ _ _ _ _ _ _ _
   | exact ih2 _ _ _ _ _ _ _ _ _ _ _ _ _ _
   | exact ih3 _ _ _ _ _ _ _ _ _ _ _
   | exact impl_taken.mono _ _ _ _ _
   | exact LeO.none _
   | refine LeO.ite ?_ ?_
   | refine LeO.bind ?_ (fun _ => ?_)
  ·intro y0 y1 y2 y3 y4 y5 y6 y7 y8 y9 y10 y11 y12 y13
   unfold impl_Rank.j1
   repeat' first
   | (with_reducible exact ih0 _ _ _ _ _ _ _ _ _ _)
   | (with_reducible exact ih1 _ _ _ _ _ _ _ _ _ _ _ _ _ _)
   | (with_reducible exact ih2 _ _ _ _ _ _ _ _ _ _ _ _ _ _)
   | (with_reducible exact ih3 _ _ _ _ _ _ _ _ _ _ _)
   | (with_reducible exact impl_taken.mono _ _ _ _ _)
   | (with_reducible exact LeO.refl _)
   | (with_reducible exact LeO.none _)
   | (with_reducible refine LeO.ite ?_ ?_)
   | (with_reducible refine LeO.bind ?_ (fun _ => ?_))
   | exact ih0 _ _ _ _ _ _ _ _ _ _
   | exact ih1 _ _ _ _ _ _ _ _ _ _ _ _ _ _
   | exact ih2 _ _ _ _ _ _ _ _ _ _ _ _ _ _
   | exact ih3 _ _ _ _ _ _ _ _ _ _ _
   | exact impl_taken.mono _ _ _ _ _
   | exact LeO.none _
   | refine LeO.ite ?_ ?_
   | refine LeO.bind ?_ (fun _ => ?_)
  ·intro y0 y1 y2 y3 y4 y5 y6 y7 y8 y9 y10 y11 y12 y13
   unfold impl_Rank.j2
   repeat' first
   | (with_reducible exact ih0 _ _ _ _ _ _ _ _ _ _)
   | (with_reducible exact ih1 _ _ _ _ _ _ _ _ _ _ _ _ _ _)
   | (with_reducible exact ih2 _ _ _ _ _ _ _ _ _ _ _ _ _ _)
   | (with_reducible exact ih3 _ _ _ _ _ _ _ _ _ _ _)
   | (with_reducible exact impl_taken.mono _ _ _ _ _)
   | (with_reducible exact LeO.refl _)
   | (with_reducible exact LeO.none _)
   | (with_reducible refine LeO.ite ?_ ?_)
   | (with_reducible refine LeO.bind ?_ (fun _ => ?_))
   | exact ih0 _ _ _ _ _ _ _ _ _ _
   | exact ih1 _ _ _ _ _ _ _ _ _ _ _ _ _ _
   | exact ih2 _ _ _ _ _ _ _ _ _ _ _ _ _ _
   | exact ih3 _ _ _ _ _ _ _ _ _ _ _
   | exact impl_taken.mono _ _ _ _ _
   | exact LeO.none _
   | refine LeO.ite ?_ ?_
   | refine LeO.bind ?_ (fun _ => ?_)
  intro y0 y1 y2 y3 y4 y5 y6 y7 y8 y9 y10
  unfold impl_Rank.j3
  repeat' first
  | (with_reducible exact ih0 _ _ _ _ _ _ _ _ _ _)
  | (with_reducible exact ih1 _ _ _ _ _ _ _ _ _ _ _ _ _ _)
  | (with_reducible exact ih2 _ _ _ _ _ _ _ _ _ _ _ _ _ _)
  | (with_reducible exact ih3 _ _ _ _ _ _ _ _ _ _ _)
  | (with_reducible exact impl_taken.mono _ _ _ _ _)
  | (with_reducible exact LeO.refl _)
  | (with_reducible exact LeO.none _)
  | (with_reducible refine LeO.ite ?_ ?_)
  | (with_reducible refine LeO.bind ?_ (fun _ => ?_))
  | exact ih0 _ _ _ _ _ _ _ _ _ _
  | exact ih1 _ _ _ _ _ _ _ _ _ _ _ _ _ _
  | exact ih2 _ _ _ _ _ _ _ _ _ _ _ _ _ _
  | exact ih3 _ _ _ _ _ _ _ _ _ _ _
  | exact impl_taken.mono _ _ _ _ _
  | exact LeO.none _
  | refine LeO.ite ?_ ?_
  | refine LeO.bind ?_ (fun _ => ?_)
theorem impl_Rank.mono : ∀ a0 k, LeO (impl_Rank.f k a0) (impl_Rank.f (k + 1) a0) := by
 intro a0 k
 obtain ⟨ih0, ih1, ih2, ih3⟩ := impl_Rank.mono_l k
 unfold impl_Rank.f
 repeat' first
   | (with_reducible exact ih0 _ _ _ _ _ _ _ _ _ _)
   | (with_reducible exact ih1 _ _ _ _ _ _ _ _ _ _ _ _ _ _)
   | (with_reducible exact ih2 _ _ _ _ _ _ _ _ _ _ _ _ _ _)
   | (with_reducible exact ih3 _ _ _ _ _ _ _ _ _ _ _)
   | (with_reducible exact impl_taken.mono _ _ _ _ _)
   | (with_reducible exact LeO.refl _)
   | (with_reducible exact LeO.none _)
   | (with_reducible refine LeO.ite ?_ ?_)
   | (with_reducible refine LeO.bind ?_ (fun _ => ?_))
   | exact ih0 _ _ _ _ _ _ _ _ _ _
   | exact ih1 _ _ _ _ _ _ _ _ _ _ _ _ _ _
   | exact ih2 _ _ _ _ _ _ _ _ _ _ _ _ _ _
   | exact ih3 _ _ _ _ _ _ _ _ _ _ _
   | exact impl_taken.mono _ _ _ _ _
   | exact LeO.none _
   | refine LeO.ite ?_ ?_
   | refine LeO.bind ?_ (fun _ => ?_)
set_option maxHeartbeats 8000000 in
set_option maxRecDepth 100000 in
theorem impl_Rank.calls (k : Nat) (A0 : Option Addr) (c0 : Nat) (l0 : List (S23)) (r : Int) (w : World) (hr0 : Kd.C k23 w A0 l0.length l0) (hc0 : l0.length ≤ c0) (h : impl_Rank.f k l0 = some r) :
  Calls Try.prog 147 #[.slice A0 l0.length c0] w fun e w' => e = .returned (.int .i64 r) ∧ Below w.heap.size w w' := by
 have hu148 := Try.underlying148
 have hu23 := Try.underlying23
 have hu128 := Try.underlying128
 have HR0 := Aside0.mk hr0
 have HC0 := Aside0.mk hc0
 clear hr0 hc0
 have HB := Aside0.mk (Below.refl w.heap.size w)
 have H : (impl_Rank.l0 k 0 l0 (l0.length : Int) 0 0 0 0 0 0 0) = some r := h
 clear h
 have H' := Aside0.mk H
 clear H
 go_enter Try.func147, Try.ntmps147
 go_wp2_with (first | ((with_reducible refine gate_dst (N := 3) rfl ?_); refine box_event ?hg (N := 3) ?hd (cs := #[.int .i64 0, .int .i64 0, .int .i64 0, .int .i64 0, .int .i64 0, .int .i64 0]) (t := 148) ?hr ?_; (case hd => rfl); (case hg => rfl); (case hr => first | (go_simp; done) | (go_simp; rfl)); intro g1 hg w2 hbox hb; have bK1 := Aside0.mk (hbox); have bW1 := gx hg HB; have bE1 := gx hg HB; replace HB := bt HB hb; clear hb hbox hg))
 go_loopg [4, 10] k (fun kq v4 v10 w' => ∃ (x4_1 : Int) (x10_1 : Int) (x616000_1 : Int) (x616001_1 : Int) (x616002_1 : Int) (x616003_1 : Int) (x616004_1 : Int) (x616005_1 : Int), v4 = .int .i64 x4_1 ∧ v10 = .int .i64 x10_1 ∧ Aside0 (impl_Rank.l0 kq x4_1 l0 (l0.length : Int) x10_1 x616000_1 x616001_1 x616002_1 x616003_1 x616004_1 x616005_1 = some r) ∧ Aside0 (kq ≤ k) ∧ Aside0 (w'.heap[g1]? = some (.cells #[.int .i64 x616000_1, .int .i64 x616001_1, .int .i64 x616002_1, .int .i64 x616003_1, .int .i64 x616004_1, .int .i64 x616005_1] 148 (0, 0))) ∧ Aside0 (Below w.heap.size w w'))
 case atStart => exact ⟨(0), (0), (0), (0), (0), (0), (0), (0), re, re, H', ⟨Nat.le_refl _⟩, ⟨by (with_reducible repeat (first | refine blk_drewN ?_ _ | refine blk_drew ?_ | refine blk_alloc ?_ _)); exact bK1.out⟩, ⟨by repeat (first | (with_reducible first | exact HB.out | apply below_alloc | apply pw_below_drewN | apply below_drew1 | refine below_set ?_ bE1.out) | exact HB.out)⟩⟩
 case round =>
  clear H'
  obtain ⟨x4_1, x10_1, x616000_1, x616001_1, x616002_1, x616003_1, x616004_1, x616005_1, rfl, rfl, HA, HK1, bK1, HB⟩ := hrel
  cases gk with
  | zero => exact absurd HA.out (by simp [impl_Rank.l0])
  | succ k1 =>
   have H := HA.out
   clear HA
   simp only [impl_Rank.l0] at H
   by_cases c3 : x10_1 < (l0.length : Int)
   ·rw [if_pos c3] at H
    have c3b0 : decide (x10_1 < (l0.length : Int)) = true := decide_eq_true c3
    clear c3
    by_cases c4 : 0 ≤ x10_1
    ·rw [if_pos c4] at H
     have c4b0 : decide (0 ≤ x10_1) = true := decide_eq_true c4
     clear c4
     by_cases c5 : x10_1 < (l0.length : Int)
     ·rw [if_pos c5] at H
      have c5b0 : decide (x10_1 < (l0.length : Int)) = true := decide_eq_true c5
      clear c5
      obtain ⟨⟨t618, t619, t620, t621⟩, A6, H⟩ := bi H
      dsimp only at H
      obtain ⟨⟨t622, t623, t624⟩, A7, H⟩ := bi H
      dsimp only at H
      have HC8 := Aside0.mk H
      clear H
      have p616 : 0 ≤ (x10_1 : Int) := dk
      have q616 : x10_1 < (l0.length : Int) := dk
      obtain ⟨ad616, e616, hx616_0, hx616_1, hx616_2, hx616_3⟩ := at_T23 HR0.out x10_1 p616 q616
      cases e616
      replace hx616_0 := hc HB hx616_0
      replace hx616_1 := hc HB hx616_1
      replace hx616_2 := hc HB hx616_2
      replace hx616_3 := hc HB hx616_3
      replace p616 := eq_true p616
      replace q616 := eq_true q616
      go_upto_region 7 with (first | ((with_reducible refine gate_dst (N := 6) rfl ?_); refine box_event ?hg (N := 6) ?hd (cs := #[.int .i64 0, .int .i64 0, .int .i64 0, .int .i64 0]) (t := 23) ?hr ?_; (case hd => rfl); (case hg => rfl); (case hr => first | (go_simp; done) | (go_simp; rfl)); intro g2 hg w9 hbox hb; have n0_ := kb bK1 hb; have n1_ := bt HB hb; have n2_ := Aside0.mk (hbox); have n3_ := gx hg HB; have n4_ := gx hg HB; have n5_ := nl hg bK1; have n6_ := nr hg bK1; clear bK1; clear HB; have bK1 := n0_; have HB := n1_; have bK2 := n2_; have bW2 := n3_; have bE2 := n4_; have bN1_2 := n5_; have bN2_1 := n6_; clear n0_ n1_ n2_ n3_ n4_ n5_ n6_; clear hb hbox hg; have hnb10 := bN2_1.out; have hnc10 := bN1_2.out; obtain ⟨hcz11_0, hcz11_1, hcz11_2, hcz11_3, hfz11_0, hfz11_1, hfz11_2, hfz11_3⟩ := cz4 bK2) | ((with_reducible refine gate_callee (f := 170) rfl ?_); refine gL 15 Try.func170 #[.agg #[.int .i64 ((rd_T23 l0 x10_1).f0), .int .i64 ((rd_T23 l0 x10_1).f1), .int .i64 ((rd_T23 l0 x10_1).f2), .int .i64 ((rd_T23 l0 x10_1).f3)]] ?_; (with_reducible refine (impl_taken.calls k1 ((rd_T23 l0 x10_1).f0) ((rd_T23 l0 x10_1).f1) ((rd_T23 l0 x10_1).f2) ((rd_T23 l0 x10_1).f3) t618 t619 t620 t621 _ A6.out).mono ?_); rintro e w12 ⟨rfl, hb⟩; refine ⟨_, rfl, ?_⟩; replace bK1 := kf bK1 hb; replace bK2 := kp #[.int .i64 ((rd_T23 l0 x10_1).f0), .int .i64 ((rd_T23 l0 x10_1).f1), .int .i64 ((rd_T23 l0 x10_1).f2), .int .i64 ((rd_T23 l0 x10_1).f3)] bK2 hb; replace HB := bt HB hb; (try clear hb); (try clear hb2); (try clear hk); (try clear hi)) | ((with_reducible refine gate_callee (f := 149) rfl ?_); refine gL 16 Try.func149 #[.agg #[.int .i64 t618, .int .i64 t619, .int .i64 t620, .int .i64 t621]] ?_; (with_reducible refine (impl_normal.calls t618 t619 t620 t621 t622 t623 t624 _ A7.out).mono ?_); rintro e w13 ⟨rfl, hb⟩; refine ⟨_, rfl, ?_⟩; replace bK1 := kb bK1 hb; replace bK2 := kb bK2 hb; replace HB := bt HB hb; (try clear hb); (try clear hb2); (try clear hk); (try clear hi)) | ((with_reducible refine gate_dst (N := 7) rfl ?_); refine box_event ?hg (N := 7) ?hd (cs := #[.int .i64 0, .int .i64 0, .int .i64 0]) (t := 128) ?hr ?_; (case hd => rfl); (case hg => rfl); (case hr => first | (go_simp; done) | (go_simp; rfl)); intro g3 hg w14 hbox hb; have n0_ := kb bK1 hb; have n1_ := kb bK2 hb; have n2_ := bt HB hb; have n3_ := Aside0.mk (hbox); have n4_ := gx hg HB; have n5_ := gx hg HB; have n6_ := nl hg bK1; have n7_ := nr hg bK1; have n8_ := nl hg bK2; have n9_ := nr hg bK2; clear bK1; clear bK2; clear HB; have bK1 := n0_; have bK2 := n1_; have HB := n2_; have bK3 := n3_; have bW3 := n4_; have bE3 := n5_; have bN1_3 := n6_; have bN3_1 := n7_; have bN2_3 := n8_; have bN3_2 := n9_; clear n0_ n1_ n2_ n3_ n4_ n5_ n6_ n7_ n8_ n9_; clear hb hbox hg; have hnb15 := bN3_1.out; have hnc15 := bN1_3.out; have hnb16 := bN3_2.out; have hnc16 := bN2_3.out; obtain ⟨hcz17_0, hcz17_1, hcz17_2, hfz17_0, hfz17_1, hfz17_2⟩ := cz3 bK3))
      (try simp only [Act.put, List.setIfInBounds_toArray, List.set_cons_zero, List.set_cons_succ])
      go_cut [17] (fun v17 wc => ∃ (kq : Nat) (x17_7 : Bool), v17 = .bool x17_7 ∧ Aside0 (impl_Rank.j1 kq x4_1 l0 (l0.length : Int) x10_1 x17_7 x616000_1 x616001_1 x616002_1 x616003_1 x616004_1 x616005_1 t622 t623 t624 = some r) ∧ Aside0 (kq ≤ k1) ∧ Aside0 (wc.heap[g1]? = some (.cells #[.int .i64 x616000_1, .int .i64 x616001_1, .int .i64 x616002_1, .int .i64 x616003_1, .int .i64 x616004_1, .int .i64 x616005_1] 148 (0, 0))) ∧ Aside0 (wc.heap[g2]? = some (.cells #[.int .i64 ((rd_T23 l0 x10_1).f0), .int .i64 ((rd_T23 l0 x10_1).f1), .int .i64 ((rd_T23 l0 x10_1).f2), .int .i64 ((rd_T23 l0 x10_1).f3)] 23 (0, 0))) ∧ Aside0 (wc.heap[g3]? = some (.cells #[.int .i64 t622, .int .i64 t623, .int .i64 t624] 128 (0, 0))) ∧ Aside0 (Below w.heap.size w wc))
      case first =>
       have H := HC8.out
       clear HC8
       by_cases c18 : x4_1 = 0
       ·rw [if_pos c18] at H
        have c18b0 : (x4_1 == 0) = true := beq_iff_eq.mpr c18
        have c18b1 : (x4_1 != 0) = false := bne_eq_false_iff_eq.mpr c18
        clear c18
        (first | rw [c18b0] | (simp only [i64_w, i32_w]; rw [c18b0]) | skip)
        have H' := Aside0.mk H
        clear H
        have hnb19 := bN3_1.out
        have hnc19 := bN1_3.out
        have hnb20 := bN3_2.out
        have hnc20 := bN2_3.out
        obtain ⟨hcz21_0, hcz21_1, hcz21_2, hfz21_0, hfz21_1, hfz21_2⟩ := cz3 bK3
        go_wp2
        go_meet
        case rel => exact ⟨_, ((!(t622 == 0) || (!(t623 == 0) || (!(t624 == 0))))), re, H', ⟨by have := HK1.out; first | omega | exact Nat.le_refl _⟩, ⟨by (with_reducible repeat (first | refine blk_drewN ?_ _ | refine blk_drew ?_ | refine blk_alloc ?_ _)); refine blk_far ?_ bN1_3.out _; (with_reducible repeat (first | refine blk_drewN ?_ _ | refine blk_drew ?_ | refine blk_alloc ?_ _)); refine blk_far ?_ bN1_3.out _; (with_reducible repeat (first | refine blk_drewN ?_ _ | refine blk_drew ?_ | refine blk_alloc ?_ _)); refine blk_far ?_ bN1_3.out _; (with_reducible repeat (first | refine blk_drewN ?_ _ | refine blk_drew ?_ | refine blk_alloc ?_ _)); exact bK1.out⟩, ⟨by (with_reducible repeat (first | refine blk_drewN ?_ _ | refine blk_drew ?_ | refine blk_alloc ?_ _)); refine blk_far ?_ bN2_3.out _; (with_reducible repeat (first | refine blk_drewN ?_ _ | refine blk_drew ?_ | refine blk_alloc ?_ _)); refine blk_far ?_ bN2_3.out _; (with_reducible repeat (first | refine blk_drewN ?_ _ | refine blk_drew ?_ | refine blk_alloc ?_ _)); refine blk_far ?_ bN2_3.out _; (with_reducible repeat (first | refine blk_drewN ?_ _ | refine blk_drew ?_ | refine blk_alloc ?_ _)); exact bK2.out⟩, ⟨by (with_reducible repeat (first | refine blk_drewN ?_ _ | refine blk_drew ?_ | refine blk_alloc ?_ _)); refine blk_put (cs := #[.int .i64 t622, .int .i64 t623, .int .i64 0]) ?_ 2 _ rfl; (with_reducible repeat (first | refine blk_drewN ?_ _ | refine blk_drew ?_ | refine blk_alloc ?_ _)); refine blk_put (cs := #[.int .i64 t622, .int .i64 0, .int .i64 0]) ?_ 1 _ rfl; (with_reducible repeat (first | refine blk_drewN ?_ _ | refine blk_drew ?_ | refine blk_alloc ?_ _)); refine blk_put (cs := #[.int .i64 0, .int .i64 0, .int .i64 0]) ?_ 0 _ rfl; (with_reducible repeat (first | refine blk_drewN ?_ _ | refine blk_drew ?_ | refine blk_alloc ?_ _)); exact bK3.out⟩, ⟨by repeat (first | (with_reducible first | exact HB.out | apply below_alloc | apply pw_below_drewN | apply below_drew1 | refine below_set ?_ bE1.out | refine below_set ?_ bE2.out | refine below_set ?_ bE3.out) | exact HB.out)⟩⟩
       rw [if_neg c18] at H
       have c18b0 : (x4_1 == 0) = false := beq_eq_false_iff_ne.mpr c18
       have c18b1 : (x4_1 != 0) = true := bne_iff_ne.mpr c18
       (first | rw [c18b0] | (simp only [i64_w, i32_w]; rw [c18b0]) | skip)
       have H' := Aside0.mk H
       clear H
       go_wp2
       go_meet
       case rel => exact ⟨_, (false), re, H', ⟨by have := HK1.out; first | omega | exact Nat.le_refl _⟩, ⟨by (with_reducible repeat (first | refine blk_drewN ?_ _ | refine blk_drew ?_ | refine blk_alloc ?_ _)); refine blk_far ?_ bN1_3.out _; (with_reducible repeat (first | refine blk_drewN ?_ _ | refine blk_drew ?_ | refine blk_alloc ?_ _)); refine blk_far ?_ bN1_3.out _; (with_reducible repeat (first | refine blk_drewN ?_ _ | refine blk_drew ?_ | refine blk_alloc ?_ _)); refine blk_far ?_ bN1_3.out _; (with_reducible repeat (first | refine blk_drewN ?_ _ | refine blk_drew ?_ | refine blk_alloc ?_ _)); exact bK1.out⟩, ⟨by (with_reducible repeat (first | refine blk_drewN ?_ _ | refine blk_drew ?_ | refine blk_alloc ?_ _)); refine blk_far ?_ bN2_3.out _; (with_reducible repeat (first | refine blk_drewN ?_ _ | refine blk_drew ?_ | refine blk_alloc ?_ _)); refine blk_far ?_ bN2_3.out _; (with_reducible repeat (first | refine blk_drewN ?_ _ | refine blk_drew ?_ | refine blk_alloc ?_ _)); refine blk_far ?_ bN2_3.out _; (with_reducible repeat (first | refine blk_drewN ?_ _ | refine blk_drew ?_ | refine blk_alloc ?_ _)); exact bK2.out⟩, ⟨by (with_reducible repeat (first | refine blk_drewN ?_ _ | refine blk_drew ?_ | refine blk_alloc ?_ _)); refine blk_put (cs := #[.int .i64 t622, .int .i64 t623, .int .i64 0]) ?_ 2 _ rfl; (with_reducible repeat (first | refine blk_drewN ?_ _ | refine blk_drew ?_ | refine blk_alloc ?_ _)); refine blk_put (cs := #[.int .i64 t622, .int .i64 0, .int .i64 0]) ?_ 1 _ rfl; (with_reducible repeat (first | refine blk_drewN ?_ _ | refine blk_drew ?_ | refine blk_alloc ?_ _)); refine blk_put (cs := #[.int .i64 0, .int .i64 0, .int .i64 0]) ?_ 0 _ rfl; (with_reducible repeat (first | refine blk_drewN ?_ _ | refine blk_drew ?_ | refine blk_alloc ?_ _)); exact bK3.out⟩, ⟨by repeat (first | (with_reducible first | exact HB.out | apply below_alloc | apply pw_below_drewN | apply below_drew1 | refine below_set ?_ bE1.out | refine below_set ?_ bE2.out | refine below_set ?_ bE3.out) | exact HB.out)⟩⟩
      case rest =>
       clear HC8
       obtain ⟨kq, x17_7, rfl, HA, HJ7, bK1, bK2, bK3, HB⟩ := hcut
       cases kq with
       | zero => exact absurd HA.out (by simp [impl_Rank.j1])
       | succ kj7 =>
        have H := HA.out
        clear HA
        simp only [impl_Rank.j1] at H
        by_cases c22 : x17_7 = true
        ·subst c22
         have H1 : (impl_Rank.l0 kj7 1 l0 (l0.length : Int) (wrap64 (x10_1 + 1)) t622 t623 t624 x616003_1 x616004_1 x616005_1) = some r := by rw [if_pos rfl] at H; exact H
         clear H
         have H := H1
         clear H1
         have H' := Aside0.mk H
         clear H
         have hnb23 := bN3_1.out
         have hnc23 := bN1_3.out
         have hnb24 := bN3_2.out
         have hnc24 := bN2_3.out
         obtain ⟨hcz25_0, hcz25_1, hcz25_2, hfz25_0, hfz25_1, hfz25_2⟩ := cz3 bK3
         have hnb26 := bN1_2.out
         have hnc26 := bN2_1.out
         have hcz27_0 : wc.cell? ⟨g1, 0, none⟩ = some (.int .i64 x616000_1) := (blk_cell bK1.out 0).trans rfl
         have hcz27_1 : wc.cell? ⟨g1, 1, none⟩ = some (.int .i64 x616001_1) := (blk_cell bK1.out 1).trans rfl
         have hcz27_2 : wc.cell? ⟨g1, 2, none⟩ = some (.int .i64 x616002_1) := (blk_cell bK1.out 2).trans rfl
         have hcz27_3 : wc.cell? ⟨g1, 3, none⟩ = some (.int .i64 x616003_1) := (blk_cell bK1.out 3).trans rfl
         have hcz27_4 : wc.cell? ⟨g1, 4, none⟩ = some (.int .i64 x616004_1) := (blk_cell bK1.out 4).trans rfl
         have hcz27_5 : wc.cell? ⟨g1, 5, none⟩ = some (.int .i64 x616005_1) := (blk_cell bK1.out 5).trans rfl
         have hfz27_0 := blk_frozen bK1.out 0
         have hfz27_1 := blk_frozen bK1.out 1
         have hfz27_2 := blk_frozen bK1.out 2
         have hfz27_3 := blk_frozen bK1.out 3
         have hfz27_4 := blk_frozen bK1.out 4
         have hfz27_5 := blk_frozen bK1.out 5
         go_wp2
         go_roundg kj7
         case measure => have := HK1.out; have := HJ7.out; omega
         case rel => exact ⟨(1), (wrap64 (x10_1 + 1)), (t622), (t623), (t624), (x616003_1), (x616004_1), (x616005_1), re, re, H', ⟨by have := HK1.out; have := HJ7.out; omega⟩, ⟨by (with_reducible repeat (first | refine blk_drewN ?_ _ | refine blk_drew ?_ | refine blk_alloc ?_ _)); refine blk_put (cs := #[.int .i64 t622, .int .i64 t623, .int .i64 x616002_1, .int .i64 x616003_1, .int .i64 x616004_1, .int .i64 x616005_1]) ?_ 2 _ rfl; (with_reducible repeat (first | refine blk_drewN ?_ _ | refine blk_drew ?_ | refine blk_alloc ?_ _)); refine blk_put (cs := #[.int .i64 t622, .int .i64 x616001_1, .int .i64 x616002_1, .int .i64 x616003_1, .int .i64 x616004_1, .int .i64 x616005_1]) ?_ 1 _ rfl; (with_reducible repeat (first | refine blk_drewN ?_ _ | refine blk_drew ?_ | refine blk_alloc ?_ _)); refine blk_put (cs := #[.int .i64 x616000_1, .int .i64 x616001_1, .int .i64 x616002_1, .int .i64 x616003_1, .int .i64 x616004_1, .int .i64 x616005_1]) ?_ 0 _ rfl; (with_reducible repeat (first | refine blk_drewN ?_ _ | refine blk_drew ?_ | refine blk_alloc ?_ _)); exact bK1.out⟩, ⟨by repeat (first | (with_reducible first | exact HB.out | apply below_alloc | apply pw_below_drewN | apply below_drew1 | refine below_set ?_ bE1.out | refine below_set ?_ bE2.out | refine below_set ?_ bE3.out) | exact HB.out)⟩⟩
        replace c22 := Bool.eq_false_iff.mpr c22
        subst c22
        have H1 : (if x4_1 = 1 then ((impl_crossOf.f x616000_1 x616001_1 x616002_1 t622 t623 t624).bind fun bt626 => (impl_Rank.j2 kj7 x4_1 l0 (l0.length : Int) x10_1 (!(bt626.1 == 0) || (!(bt626.2.1 == 0) || (!(bt626.2.2 == 0)))) x616000_1 x616001_1 x616002_1 x616003_1 x616004_1 x616005_1 t622 t623 t624)) else (impl_Rank.j2 kj7 x4_1 l0 (l0.length : Int) x10_1 false x616000_1 x616001_1 x616002_1 x616003_1 x616004_1 x616005_1 t622 t623 t624)) = some r := by rw [if_neg (show ¬ (false = true) by decide)] at H; exact H
        clear H
        have H := H1
        clear H1
        have HC28 := Aside0.mk H
        clear H
        go_upto_region 9 with (fail)
        go_cut [27] (fun v27 wc => ∃ (kq : Nat) (x27_27 : Bool), v27 = .bool x27_27 ∧ Aside0 (impl_Rank.j2 kq x4_1 l0 (l0.length : Int) x10_1 x27_27 x616000_1 x616001_1 x616002_1 x616003_1 x616004_1 x616005_1 t622 t623 t624 = some r) ∧ Aside0 (kq ≤ kj7) ∧ Aside0 (wc.heap[g1]? = some (.cells #[.int .i64 x616000_1, .int .i64 x616001_1, .int .i64 x616002_1, .int .i64 x616003_1, .int .i64 x616004_1, .int .i64 x616005_1] 148 (0, 0))) ∧ Aside0 (wc.heap[g2]? = some (.cells #[.int .i64 ((rd_T23 l0 x10_1).f0), .int .i64 ((rd_T23 l0 x10_1).f1), .int .i64 ((rd_T23 l0 x10_1).f2), .int .i64 ((rd_T23 l0 x10_1).f3)] 23 (0, 0))) ∧ Aside0 (wc.heap[g3]? = some (.cells #[.int .i64 t622, .int .i64 t623, .int .i64 t624] 128 (0, 0))) ∧ Aside0 (Below w.heap.size w wc))
        case first =>
         have H := HC28.out
         clear HC28
         by_cases c29 : x4_1 = 1
         ·rw [if_pos c29] at H
          have c29b0 : (x4_1 == 1) = true := beq_iff_eq.mpr c29
          have c29b1 : (x4_1 != 1) = false := bne_eq_false_iff_eq.mpr c29
          clear c29
          (first | rw [c29b0] | (simp only [i64_w, i32_w]; rw [c29b0]) | skip)
          obtain ⟨⟨t626, t627, t628⟩, A30, H⟩ := bi H
          dsimp only at H
          have H' := Aside0.mk H
          clear H
          have hnb31 := bN1_2.out
          have hnc31 := bN2_1.out
          have hnb32 := bN1_3.out
          have hnc32 := bN3_1.out
          have hcz33_0 : wc.cell? ⟨g1, 0, none⟩ = some (.int .i64 x616000_1) := (blk_cell bK1.out 0).trans rfl
          have hcz33_1 : wc.cell? ⟨g1, 1, none⟩ = some (.int .i64 x616001_1) := (blk_cell bK1.out 1).trans rfl
          have hcz33_2 : wc.cell? ⟨g1, 2, none⟩ = some (.int .i64 x616002_1) := (blk_cell bK1.out 2).trans rfl
          have hcz33_3 : wc.cell? ⟨g1, 3, none⟩ = some (.int .i64 x616003_1) := (blk_cell bK1.out 3).trans rfl
          have hcz33_4 : wc.cell? ⟨g1, 4, none⟩ = some (.int .i64 x616004_1) := (blk_cell bK1.out 4).trans rfl
          have hcz33_5 : wc.cell? ⟨g1, 5, none⟩ = some (.int .i64 x616005_1) := (blk_cell bK1.out 5).trans rfl
          have hfz33_0 := blk_frozen bK1.out 0
          have hfz33_1 := blk_frozen bK1.out 1
          have hfz33_2 := blk_frozen bK1.out 2
          have hfz33_3 := blk_frozen bK1.out 3
          have hfz33_4 := blk_frozen bK1.out 4
          have hfz33_5 := blk_frozen bK1.out 5
          have hnb34 := bN3_2.out
          have hnc34 := bN2_3.out
          obtain ⟨hcz35_0, hcz35_1, hcz35_2, hfz35_0, hfz35_1, hfz35_2⟩ := cz3 bK3
          go_wp2_with (first | (go_at_call 148; (with_reducible refine (impl_crossOf.calls x616000_1 x616001_1 x616002_1 t622 t623 t624 t626 t627 t628 _ A30.out).mono ?_); rintro e w36 ⟨rfl, hb⟩; replace bK1 := kb bK1 hb; replace bK2 := kb bK2 hb; replace bK3 := kb bK3 hb; replace HB := bt HB hb; (try clear hb); (try clear hb2); (try clear hk); (try clear hi)))
          go_meet
          case rel => exact ⟨_, ((!(t626 == 0) || (!(t627 == 0) || (!(t628 == 0))))), re, H', ⟨by have := HK1.out; have := HJ7.out; first | omega | exact Nat.le_refl _⟩, ⟨by (with_reducible repeat (first | refine blk_drewN ?_ _ | refine blk_drew ?_ | refine blk_alloc ?_ _)); exact bK1.out⟩, ⟨by (with_reducible repeat (first | refine blk_drewN ?_ _ | refine blk_drew ?_ | refine blk_alloc ?_ _)); exact bK2.out⟩, ⟨by (with_reducible repeat (first | refine blk_drewN ?_ _ | refine blk_drew ?_ | refine blk_alloc ?_ _)); exact bK3.out⟩, ⟨by repeat (first | (with_reducible first | exact HB.out | apply below_alloc | apply pw_below_drewN | apply below_drew1 | refine below_set ?_ bE1.out | refine below_set ?_ bE2.out | refine below_set ?_ bE3.out) | exact HB.out)⟩⟩
         rw [if_neg c29] at H
         have c29b0 : (x4_1 == 1) = false := beq_eq_false_iff_ne.mpr c29
         have c29b1 : (x4_1 != 1) = true := bne_iff_ne.mpr c29
         (first | rw [c29b0] | (simp only [i64_w, i32_w]; rw [c29b0]) | skip)
         have H' := Aside0.mk H
         clear H
         go_wp2
         go_meet
         case rel => exact ⟨_, (false), re, H', ⟨by have := HK1.out; have := HJ7.out; first | omega | exact Nat.le_refl _⟩, ⟨by (with_reducible repeat (first | refine blk_drewN ?_ _ | refine blk_drew ?_ | refine blk_alloc ?_ _)); exact bK1.out⟩, ⟨by (with_reducible repeat (first | refine blk_drewN ?_ _ | refine blk_drew ?_ | refine blk_alloc ?_ _)); exact bK2.out⟩, ⟨by (with_reducible repeat (first | refine blk_drewN ?_ _ | refine blk_drew ?_ | refine blk_alloc ?_ _)); exact bK3.out⟩, ⟨by repeat (first | (with_reducible first | exact HB.out | apply below_alloc | apply pw_below_drewN | apply below_drew1 | refine below_set ?_ bE1.out | refine below_set ?_ bE2.out | refine below_set ?_ bE3.out) | exact HB.out)⟩⟩
        case rest =>
         clear HC28
         obtain ⟨kq, x27_27, rfl, HA, HJ27, bK1, bK2, bK3, HB⟩ := hcut
         cases kq with
         | zero => exact absurd HA.out (by simp [impl_Rank.j2])
         | succ kj27 =>
          have H := HA.out
          clear HA
          simp only [impl_Rank.j2] at H
          by_cases c37 : x27_27 = true
          ·subst c37
           have H1 : (impl_Rank.l0 kj27 2 l0 (l0.length : Int) (wrap64 (x10_1 + 1)) x616000_1 x616001_1 x616002_1 t622 t623 t624) = some r := by rw [if_pos rfl] at H; exact H
           clear H
           have H := H1
           clear H1
           have H' := Aside0.mk H
           clear H
           have hnb38 := bN3_1.out
           have hnc38 := bN1_3.out
           have hnb39 := bN3_2.out
           have hnc39 := bN2_3.out
           obtain ⟨hcz40_0, hcz40_1, hcz40_2, hfz40_0, hfz40_1, hfz40_2⟩ := cz3 bK3
           have hnb41 := bN1_2.out
           have hnc41 := bN2_1.out
           have hcz42_0 : wc.cell? ⟨g1, 0, none⟩ = some (.int .i64 x616000_1) := (blk_cell bK1.out 0).trans rfl
           have hcz42_1 : wc.cell? ⟨g1, 1, none⟩ = some (.int .i64 x616001_1) := (blk_cell bK1.out 1).trans rfl
           have hcz42_2 : wc.cell? ⟨g1, 2, none⟩ = some (.int .i64 x616002_1) := (blk_cell bK1.out 2).trans rfl
           have hcz42_3 : wc.cell? ⟨g1, 3, none⟩ = some (.int .i64 x616003_1) := (blk_cell bK1.out 3).trans rfl
           have hcz42_4 : wc.cell? ⟨g1, 4, none⟩ = some (.int .i64 x616004_1) := (blk_cell bK1.out 4).trans rfl
           have hcz42_5 : wc.cell? ⟨g1, 5, none⟩ = some (.int .i64 x616005_1) := (blk_cell bK1.out 5).trans rfl
           have hfz42_0 := blk_frozen bK1.out 0
           have hfz42_1 := blk_frozen bK1.out 1
           have hfz42_2 := blk_frozen bK1.out 2
           have hfz42_3 := blk_frozen bK1.out 3
           have hfz42_4 := blk_frozen bK1.out 4
           have hfz42_5 := blk_frozen bK1.out 5
           go_wp2
           go_roundg kj27
           case measure => have := HK1.out; have := HJ7.out; have := HJ27.out; omega
           case rel => exact ⟨(2), (wrap64 (x10_1 + 1)), (x616000_1), (x616001_1), (x616002_1), (t622), (t623), (t624), re, re, H', ⟨by have := HK1.out; have := HJ7.out; have := HJ27.out; omega⟩, ⟨by (with_reducible repeat (first | refine blk_drewN ?_ _ | refine blk_drew ?_ | refine blk_alloc ?_ _)); refine blk_put (cs := #[.int .i64 x616000_1, .int .i64 x616001_1, .int .i64 x616002_1, .int .i64 t622, .int .i64 t623, .int .i64 x616005_1]) ?_ 5 _ rfl; (with_reducible repeat (first | refine blk_drewN ?_ _ | refine blk_drew ?_ | refine blk_alloc ?_ _)); refine blk_put (cs := #[.int .i64 x616000_1, .int .i64 x616001_1, .int .i64 x616002_1, .int .i64 t622, .int .i64 x616004_1, .int .i64 x616005_1]) ?_ 4 _ rfl; (with_reducible repeat (first | refine blk_drewN ?_ _ | refine blk_drew ?_ | refine blk_alloc ?_ _)); refine blk_put (cs := #[.int .i64 x616000_1, .int .i64 x616001_1, .int .i64 x616002_1, .int .i64 x616003_1, .int .i64 x616004_1, .int .i64 x616005_1]) ?_ 3 _ rfl; (with_reducible repeat (first | refine blk_drewN ?_ _ | refine blk_drew ?_ | refine blk_alloc ?_ _)); exact bK1.out⟩, ⟨by repeat (first | (with_reducible first | exact HB.out | apply below_alloc | apply pw_below_drewN | apply below_drew1 | refine below_set ?_ bE1.out | refine below_set ?_ bE2.out | refine below_set ?_ bE3.out) | exact HB.out)⟩⟩
          replace c37 := Bool.eq_false_iff.mpr c37
          subst c37
          have H1 : (if x4_1 = 2 then ((impl_det.f x616000_1 x616001_1 x616002_1 x616003_1 x616004_1 x616005_1 t622 t623 t624).bind fun t629 => (impl_Rank.j3 kj27 x4_1 l0 (l0.length : Int) x10_1 (t629 != 0) x616000_1 x616001_1 x616002_1 x616003_1 x616004_1 x616005_1)) else (impl_Rank.j3 kj27 x4_1 l0 (l0.length : Int) x10_1 false x616000_1 x616001_1 x616002_1 x616003_1 x616004_1 x616005_1)) = some r := by rw [if_neg (show ¬ (false = true) by decide)] at H; exact H
          clear H
          have H := H1
          clear H1
          have HC43 := Aside0.mk H
          clear H
          go_upto_region 11 with (fail)
          go_cut [40] (fun v40 wc => ∃ (kq : Nat) (x40_42 : Bool), v40 = .bool x40_42 ∧ Aside0 (impl_Rank.j3 kq x4_1 l0 (l0.length : Int) x10_1 x40_42 x616000_1 x616001_1 x616002_1 x616003_1 x616004_1 x616005_1 = some r) ∧ Aside0 (kq ≤ kj27) ∧ Aside0 (wc.heap[g1]? = some (.cells #[.int .i64 x616000_1, .int .i64 x616001_1, .int .i64 x616002_1, .int .i64 x616003_1, .int .i64 x616004_1, .int .i64 x616005_1] 148 (0, 0))) ∧ Aside0 (wc.heap[g2]? = some (.cells #[.int .i64 ((rd_T23 l0 x10_1).f0), .int .i64 ((rd_T23 l0 x10_1).f1), .int .i64 ((rd_T23 l0 x10_1).f2), .int .i64 ((rd_T23 l0 x10_1).f3)] 23 (0, 0))) ∧ Aside0 (wc.heap[g3]? = some (.cells #[.int .i64 t622, .int .i64 t623, .int .i64 t624] 128 (0, 0))) ∧ Aside0 (Below w.heap.size w wc))
          case first =>
           have H := HC43.out
           clear HC43
           by_cases c44 : x4_1 = 2
           ·rw [if_pos c44] at H
            have c44b0 : (x4_1 == 2) = true := beq_iff_eq.mpr c44
            have c44b1 : (x4_1 != 2) = false := bne_eq_false_iff_eq.mpr c44
            clear c44
            (first | rw [c44b0] | (simp only [i64_w, i32_w]; rw [c44b0]) | skip)
            obtain ⟨t629, A45, H⟩ := bi H
            have H' := Aside0.mk H
            clear H
            have hnb46 := bN1_2.out
            have hnc46 := bN2_1.out
            have hnb47 := bN1_3.out
            have hnc47 := bN3_1.out
            have hcz48_0 : wc.cell? ⟨g1, 0, none⟩ = some (.int .i64 x616000_1) := (blk_cell bK1.out 0).trans rfl
            have hcz48_1 : wc.cell? ⟨g1, 1, none⟩ = some (.int .i64 x616001_1) := (blk_cell bK1.out 1).trans rfl
            have hcz48_2 : wc.cell? ⟨g1, 2, none⟩ = some (.int .i64 x616002_1) := (blk_cell bK1.out 2).trans rfl
            have hcz48_3 : wc.cell? ⟨g1, 3, none⟩ = some (.int .i64 x616003_1) := (blk_cell bK1.out 3).trans rfl
            have hcz48_4 : wc.cell? ⟨g1, 4, none⟩ = some (.int .i64 x616004_1) := (blk_cell bK1.out 4).trans rfl
            have hcz48_5 : wc.cell? ⟨g1, 5, none⟩ = some (.int .i64 x616005_1) := (blk_cell bK1.out 5).trans rfl
            have hfz48_0 := blk_frozen bK1.out 0
            have hfz48_1 := blk_frozen bK1.out 1
            have hfz48_2 := blk_frozen bK1.out 2
            have hfz48_3 := blk_frozen bK1.out 3
            have hfz48_4 := blk_frozen bK1.out 4
            have hfz48_5 := blk_frozen bK1.out 5
            have hnb49 := bN3_2.out
            have hnc49 := bN2_3.out
            obtain ⟨hcz50_0, hcz50_1, hcz50_2, hfz50_0, hfz50_1, hfz50_2⟩ := cz3 bK3
            go_wp2_with (first | (go_at_call 171; (with_reducible refine (impl_det.calls x616000_1 x616001_1 x616002_1 x616003_1 x616004_1 x616005_1 t622 t623 t624 t629 _ A45.out).mono ?_); rintro e w51 ⟨rfl, hb⟩; replace bK1 := kb bK1 hb; replace bK2 := kb bK2 hb; replace bK3 := kb bK3 hb; replace HB := bt HB hb; (try clear hb); (try clear hb2); (try clear hk); (try clear hi)))
            go_meet
            case rel => exact ⟨_, ((t629 != 0)), re, H', ⟨by have := HK1.out; have := HJ7.out; have := HJ27.out; first | omega | exact Nat.le_refl _⟩, ⟨by (with_reducible repeat (first | refine blk_drewN ?_ _ | refine blk_drew ?_ | refine blk_alloc ?_ _)); exact bK1.out⟩, ⟨by (with_reducible repeat (first | refine blk_drewN ?_ _ | refine blk_drew ?_ | refine blk_alloc ?_ _)); exact bK2.out⟩, ⟨by (with_reducible repeat (first | refine blk_drewN ?_ _ | refine blk_drew ?_ | refine blk_alloc ?_ _)); exact bK3.out⟩, ⟨by repeat (first | (with_reducible first | exact HB.out | apply below_alloc | apply pw_below_drewN | apply below_drew1 | refine below_set ?_ bE1.out | refine below_set ?_ bE2.out | refine below_set ?_ bE3.out) | exact HB.out)⟩⟩
           rw [if_neg c44] at H
           have c44b0 : (x4_1 == 2) = false := beq_eq_false_iff_ne.mpr c44
           have c44b1 : (x4_1 != 2) = true := bne_iff_ne.mpr c44
           (first | rw [c44b0] | (simp only [i64_w, i32_w]; rw [c44b0]) | skip)
           have H' := Aside0.mk H
           clear H
           go_wp2
           go_meet
           case rel => exact ⟨_, (false), re, H', ⟨by have := HK1.out; have := HJ7.out; have := HJ27.out; first | omega | exact Nat.le_refl _⟩, ⟨by (with_reducible repeat (first | refine blk_drewN ?_ _ | refine blk_drew ?_ | refine blk_alloc ?_ _)); exact bK1.out⟩, ⟨by (with_reducible repeat (first | refine blk_drewN ?_ _ | refine blk_drew ?_ | refine blk_alloc ?_ _)); exact bK2.out⟩, ⟨by (with_reducible repeat (first | refine blk_drewN ?_ _ | refine blk_drew ?_ | refine blk_alloc ?_ _)); exact bK3.out⟩, ⟨by repeat (first | (with_reducible first | exact HB.out | apply below_alloc | apply pw_below_drewN | apply below_drew1 | refine below_set ?_ bE1.out | refine below_set ?_ bE2.out | refine below_set ?_ bE3.out) | exact HB.out)⟩⟩
          case rest =>
           clear HC43
           obtain ⟨kq, x40_42, rfl, HA, HJ42, bK1, bK2, bK3, HB⟩ := hcut
           cases kq with
           | zero => exact absurd HA.out (by simp [impl_Rank.j3])
           | succ kj42 =>
            have H := HA.out
            clear HA
            simp only [impl_Rank.j3] at H
            by_cases c52 : x40_42 = true
            ·subst c52
             have H1 : (some 3) = some r := by rw [if_pos rfl] at H; exact H
             clear H
             have H := H1
             clear H1
             obtain rfl := Option.some.inj H
             go_wp2
             go_ret
             exact fin HB
            replace c52 := Bool.eq_false_iff.mpr c52
            subst c52
            have H1 : (impl_Rank.l0 kj42 x4_1 l0 (l0.length : Int) (wrap64 (x10_1 + 1)) x616000_1 x616001_1 x616002_1 x616003_1 x616004_1 x616005_1) = some r := by rw [if_neg (show ¬ (false = true) by decide)] at H; exact H
            clear H
            have H := H1
            clear H1
            have H' := Aside0.mk H
            clear H
            go_wp2
            go_roundg kj42
            case measure => have := HK1.out; have := HJ7.out; have := HJ27.out; have := HJ42.out; omega
            case rel => exact ⟨(x4_1), (wrap64 (x10_1 + 1)), (x616000_1), (x616001_1), (x616002_1), (x616003_1), (x616004_1), (x616005_1), re, re, H', ⟨by have := HK1.out; have := HJ7.out; have := HJ27.out; have := HJ42.out; omega⟩, ⟨by (with_reducible repeat (first | refine blk_drewN ?_ _ | refine blk_drew ?_ | refine blk_alloc ?_ _)); exact bK1.out⟩, ⟨by repeat (first | (with_reducible first | exact HB.out | apply below_alloc | apply pw_below_drewN | apply below_drew1 | refine below_set ?_ bE1.out | refine below_set ?_ bE2.out | refine below_set ?_ bE3.out) | exact HB.out)⟩⟩
     rw [if_neg c5] at H
     exact absurd H (by simp)
    rw [if_neg c4] at H
    exact absurd H (by simp)
   rw [if_neg c3] at H
   have c3b0 : decide (x10_1 < (l0.length : Int)) = false := decide_eq_false c3
   clear c3
   obtain rfl := Option.some.inj H
   go_wp2
   go_ret
   exact fin HB

end Go.Proofs.Ytndedincanmaeaa.Print
