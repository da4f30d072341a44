-- Printed by a program of the session (mkprinter.py, over the kit's print); Lean checks it.
import Derived.Test.YtndedincanmaeaaCp
import Derived.Test.YtndedincanmaeaaPrint0
import Derived.Test.YtndedincanmaeaaPrint5
import Derived.Test.YtndedincanmaeaaPrint6
namespace Go.Proofs.Ytndedincanmaeaa.Print
open Go.RowKit Go.Proofs.YtndedincanmaeaaW.PrintWords Go.Proofs.YtndedincanmaeaaW.PrintLast Go.Proofs.Ytndedincanmaeaa.Cp
set_option linter.unusedVariables false
set_option linter.unusedSimpArgs false

/-! ### spec_l6Clash3: function 162 -/
mutual
def spec_l6Clash3.l0 : Nat → Int → Int → Int → Int → Int → Int → Int → Int → Int → Int → Int → Int → Int → Int → Int → Int → Int → Int → Int → Int → Int → Int → Option (Bool)
 | 0, _, _, _, _, _, _, _, _, _, _, _, _, _, _, _, _, _, _, _, _, _, _ => none
 | k + 1, x10, x152000, x152001, x152002, x152003, x153000, x153001, x153002, x153003, x154000, x154001, x154002, x154003, x159000, x159001, x159002, x163000, x163001, x163002, x167000, x167001, x167002 => if x10 < 3 then (if x10 = 0 then (if x159000 = 0 then (if x163000 = 0 then (spec_l6Clash3.j1 k x10 (x167000 != 0) x152000 x152001 x152002 x152003 x153000 x153001 x153002 x153003 x154000 x154001 x154002 x154003 x159000 x159001 x159002 x163000 x163001 x163002 x167000 x167001 x167002) else (spec_l6Clash3.j1 k x10 true x152000 x152001 x152002 x152003 x153000 x153001 x153002 x153003 x154000 x154001 x154002 x154003 x159000 x159001 x159002 x163000 x163001 x163002 x167000 x167001 x167002)) else (spec_l6Clash3.j1 k x10 true x152000 x152001 x152002 x152003 x153000 x153001 x153002 x153003 x154000 x154001 x154002 x154003 x159000 x159001 x159002 x163000 x163001 x163002 x167000 x167001 x167002)) else (if x10 = 1 then (if x159001 = 0 then (if x163001 = 0 then (spec_l6Clash3.j1 k x10 (x167001 != 0) x152000 x152001 x152002 x152003 x153000 x153001 x153002 x153003 x154000 x154001 x154002 x154003 x159000 x159001 x159002 x163000 x163001 x163002 x167000 x167001 x167002) else (spec_l6Clash3.j1 k x10 true x152000 x152001 x152002 x152003 x153000 x153001 x153002 x153003 x154000 x154001 x154002 x154003 x159000 x159001 x159002 x163000 x163001 x163002 x167000 x167001 x167002)) else (spec_l6Clash3.j1 k x10 true x152000 x152001 x152002 x152003 x153000 x153001 x153002 x153003 x154000 x154001 x154002 x154003 x159000 x159001 x159002 x163000 x163001 x163002 x167000 x167001 x167002)) else (if x10 = 2 then (if x159002 = 0 then (if x163002 = 0 then (spec_l6Clash3.j1 k x10 (x167002 != 0) x152000 x152001 x152002 x152003 x153000 x153001 x153002 x153003 x154000 x154001 x154002 x154003 x159000 x159001 x159002 x163000 x163001 x163002 x167000 x167001 x167002) else (spec_l6Clash3.j1 k x10 true x152000 x152001 x152002 x152003 x153000 x153001 x153002 x153003 x154000 x154001 x154002 x154003 x159000 x159001 x159002 x163000 x163001 x163002 x167000 x167001 x167002)) else (spec_l6Clash3.j1 k x10 true x152000 x152001 x152002 x152003 x153000 x153001 x153002 x153003 x154000 x154001 x154002 x154003 x159000 x159001 x159002 x163000 x163001 x163002 x167000 x167001 x167002)) else (none)))) else (some false)
def spec_l6Clash3.j1 : Nat → Int → Bool → Int → Int → Int → Int → Int → Int → Int → Int → Int → Int → Int → Int → Int → Int → Int → Int → Int → Int → Int → Int → Int → Option (Bool)
 | 0, _, _, _, _, _, _, _, _, _, _, _, _, _, _, _, _, _, _, _, _, _, _, _ => none
 | k + 1, x10, x44, x152000, x152001, x152002, x152003, x153000, x153001, x153002, x153003, x154000, x154001, x154002, x154003, x159000, x159001, x159002, x163000, x163001, x163002, x167000, x167001, x167002 => if x44 = true then (if x10 = 0 then ((spec_l6Sum.f k (([x159000, x163000, x167000] : List Int)) (([x152003, x153003, x154003] : List Int))).bind fun t173 => (some t173)) else (if x10 = 1 then ((spec_l6Sum.f k (([x159001, x163001, x167001] : List Int)) (([x152003, x153003, x154003] : List Int))).bind fun t180 => (some t180)) else (if x10 = 2 then ((spec_l6Sum.f k (([x159002, x163002, x167002] : List Int)) (([x152003, x153003, x154003] : List Int))).bind fun t187 => (some t187)) else (none)))) else (spec_l6Clash3.l0 k (wrap64 (x10 + 1)) x152000 x152001 x152002 x152003 x153000 x153001 x153002 x153003 x154000 x154001 x154002 x154003 x159000 x159001 x159002 x163000 x163001 x163002 x167000 x167001 x167002)
end
def spec_l6Clash3.f (k : Nat) (a0_0 : Int) (a0_1 : Int) (a0_2 : Int) (a0_3 : Int) (a1_0 : Int) (a1_1 : Int) (a1_2 : Int) (a1_3 : Int) (a2_0 : Int) (a2_1 : Int) (a2_2 : Int) (a2_3 : Int) : Option (Bool) := (spec_l4Det3.f a0_0 a0_1 a0_2 a0_3 a1_0 a1_1 a1_2 a1_3 a2_0 a2_1 a2_2 a2_3).bind fun t154 => (if t154 = 0 then ((spec_l4Cross.f a1_0 a1_1 a1_2 a1_3 a2_0 a2_1 a2_2 a2_3).bind fun bt155 => ((spec_l4Cross.f a2_0 a2_1 a2_2 a2_3 a0_0 a0_1 a0_2 a0_3).bind fun bt159 => ((spec_l4Cross.f a0_0 a0_1 a0_2 a0_3 a1_0 a1_1 a1_2 a1_3).bind fun bt163 => (spec_l6Clash3.l0 k 0 a0_0 a0_1 a0_2 a0_3 a1_0 a1_1 a1_2 a1_3 a2_0 a2_1 a2_2 a2_3 bt155.1 bt155.2.1 bt155.2.2 bt159.1 bt159.2.1 bt159.2.2 bt163.1 bt163.2.1 bt163.2.2)))) else (some false))
theorem spec_l6Clash3.mono_l : ∀ k, (∀ y0 y1 y2 y3 y4 y5 y6 y7 y8 y9 y10 y11 y12 y13 y14 y15 y16 y17 y18 y19 y20 y21, LeO (spec_l6Clash3.l0 k y0 y1 y2 y3 y4 y5 y6 y7 y8 y9 y10 y11 y12 y13 y14 y15 y16 y17 y18 y19 y20 y21) (spec_l6Clash3.l0 (k + 1) y0 y1 y2 y3 y4 y5 y6 y7 y8 y9 y10 y11 y12 y13 y14 y15 y16 y17 y18 y19 y20 y21)) ∧ (∀ y0 y1 y2 y3 y4 y5 y6 y7 y8 y9 y10 y11 y12 y13 y14 y15 y16 y17 y18 y19 y20 y21 y22, LeO (spec_l6Clash3.j1 k y0 y1 y2 y3 y4 y5 y6 y7 y8 y9 y10 y11 y12 y13 y14 y15 y16 y17 y18 y19 y20 y21 y22) (spec_l6Clash3.j1 (k + 1) y0 y1 y2 y3 y4 y5 y6 y7 y8 y9 y10 y11 y12 y13 y14 y15 y16 y17 y18 y19 y20 y21 y22))
 | 0 => ⟨fun _ _ _ _ _ _ _ _ _ _ _ _ _ _ _ _ _ _ _ _ _ _ r h => by simp [spec_l6Clash3.l0] at h, fun _ _ _ _ _ _ _ _ _ _ _ _ _ _ _ _ _ _ _ _ _ _ _ r h => by simp [spec_l6Clash3.j1] at h⟩
 | k + 1 => by
  obtain ⟨ih0, ih1⟩ := spec_l6Clash3.mono_l k
  refine ⟨?_, ?_⟩
  ·intro y0 y1 y2 y3 y4 y5 y6 y7 y8 y9 y10 y11 y12 y13 y14 y15 y16 y17 y18 y19 y20 y21
   unfold spec_l6Clash3.l0
   repeat' first
   | (with_reducible exact ih0 _ _ _ _ _ _ _ _ _ _ _ _ _ _ _ _ _ _ _ _ _ _)
   | (with_reducible exact ih1 _ _ _ _ _ _ _ _ _ _ _ _ _ _ _ _ _ _ _ _ _ _ _)
   | (with_reducible exact spec_l6Sum.mono _ _ _)
   | (with_reducible exact LeO.refl _)
   | (with_reducible exact LeO.none _)
   | (with_reducible refine LeO.ite ?_ ?_)
   | (with_reducible refine LeO.bind ?_ (fun _ => ?_))
   | exact ih0 _ _ _ _ _ _ _ _ _ _ _ _ _ _ _ _ _ _ _ _ _ _
   | exact ih1 _ _ _ _ _ _ _ _ _ _ _ _ _ _ _ _ _ _ _ _ _ _ _
   | exact spec_l6Sum.mono _ _ _
   | exact LeO.none _
   | refine LeO.ite ?_ ?_
   | refine LeO.bind ?_ (fun _ => ?_)
  ·intro y0 y1 y2 y3 y4 y5 y6 y7 y8 y9 y10 y11 y12 y13 y14 y15 y16 y17 y18 y19 y20 y21 y22
   unfold spec_l6Clash3.j1
   repeat' first
   | (with_reducible exact ih0 _ _ _ _ _ _ _ _ _ _ _ _ _ _ _ _ _ _ _ _ _ _)
   | (with_reducible exact ih1 _ _ _ _ _ _ _ _ _ _ _ _ _ _ _ _ _ _ _ _ _ _ _)
   | (with_reducible exact spec_l6Sum.mono _ _ _)
   | (with_reducible exact LeO.refl _)
   | (with_reducible exact LeO.none _)
   | (with_reducible refine LeO.ite ?_ ?_)
   | (with_reducible refine LeO.bind ?_ (fun _ => ?_))
   | exact ih0 _ _ _ _ _ _ _ _ _ _ _ _ _ _ _ _ _ _ _ _ _ _
   | exact ih1 _ _ _ _ _ _ _ _ _ _ _ _ _ _ _ _ _ _ _ _ _ _ _
   | exact spec_l6Sum.mono _ _ _
   | exact LeO.none _
   | refine LeO.ite ?_ ?_
   | refine LeO.bind ?_ (fun _ => ?_)
theorem spec_l6Clash3.mono : ∀ a0 a1 a2 a3 a4 a5 a6 a7 a8 a9 a10 a11 k, LeO (spec_l6Clash3.f k a0 a1 a2 a3 a4 a5 a6 a7 a8 a9 a10 a11) (spec_l6Clash3.f (k + 1) a0 a1 a2 a3 a4 a5 a6 a7 a8 a9 a10 a11) := by
 intro a0 a1 a2 a3 a4 a5 a6 a7 a8 a9 a10 a11 k
 obtain ⟨ih0, ih1⟩ := spec_l6Clash3.mono_l k
 unfold spec_l6Clash3.f
 repeat' first
   | (with_reducible exact ih0 _ _ _ _ _ _ _ _ _ _ _ _ _ _ _ _ _ _ _ _ _ _)
   | (with_reducible exact ih1 _ _ _ _ _ _ _ _ _ _ _ _ _ _ _ _ _ _ _ _ _ _ _)
   | (with_reducible exact spec_l6Sum.mono _ _ _)
   | (with_reducible exact LeO.refl _)
   | (with_reducible exact LeO.none _)
   | (with_reducible refine LeO.ite ?_ ?_)
   | (with_reducible refine LeO.bind ?_ (fun _ => ?_))
   | exact ih0 _ _ _ _ _ _ _ _ _ _ _ _ _ _ _ _ _ _ _ _ _ _
   | exact ih1 _ _ _ _ _ _ _ _ _ _ _ _ _ _ _ _ _ _ _ _ _ _ _
   | exact spec_l6Sum.mono _ _ _
   | exact LeO.none _
   | refine LeO.ite ?_ ?_
   | refine LeO.bind ?_ (fun _ => ?_)
def spec_l6Clash3.T10 : Bool × List (List Nat × List Nat) := (true, [([], []), ([0], [0]), ([1], [1]), ([], []), ([3], [3]), ([4], [4]), ([], []), ([6], [6]), ([7], [7]), ([2, 5, 8], [2, 5, 8]), ([], []), ([10], [10]), ([], []), ([12], [12]), ([], []), ([14], [14]), ([11, 13, 15], [11, 13, 15]), ([9, 16], [9, 16]), ([17, 17, 0, 1, 2, 3, 4, 5, 6, 7, 8, 9, 10, 11, 12, 13, 14, 15, 16, 17], [17])])
def spec_l6Clash3.B10 : List Nat := [0, 1, 3, 0, 8, 24, 0, 64, 192, 511, 0, 1024, 0, 4096, 0, 16384, 64512, 131071, 262143]
theorem spec_l6Clash3.tab10 : rtab .any (opsOf Try.f162 10) = spec_l6Clash3.T10 := by kernel_rfl
theorem spec_l6Clash3.bits10 : waitsOk spec_l6Clash3.T10.2 spec_l6Clash3.B10 = true := by kernel_rfl
set_option maxHeartbeats 8000000 in
set_option maxRecDepth 100000 in
theorem spec_l6Clash3.calls (k : Nat) (a0_0 : Int) (a0_1 : Int) (a0_2 : Int) (a0_3 : Int) (a1_0 : Int) (a1_1 : Int) (a1_2 : Int) (a1_3 : Int) (a2_0 : Int) (a2_1 : Int) (a2_2 : Int) (a2_3 : Int) (r : Bool) (w : World) (h : spec_l6Clash3.f k a0_0 a0_1 a0_2 a0_3 a1_0 a1_1 a1_2 a1_3 a2_0 a2_1 a2_2 a2_3 = some r) :
  Calls Try.prog 162 #[.agg #[.int .i64 a0_0, .int .i64 a0_1, .int .i64 a0_2, .int .i64 a0_3], .agg #[.int .i64 a1_0, .int .i64 a1_1, .int .i64 a1_2, .int .i64 a1_3], .agg #[.int .i64 a2_0, .int .i64 a2_1, .int .i64 a2_2, .int .i64 a2_3]] w fun e w' => e = .returned (.bool r) ∧ Below w.heap.size w w' := by
 have hu23 := Try.underlying23
 have hu128 := Try.underlying128
 have HB := Aside0.mk (Below.refl w.heap.size w)
 have H : ((spec_l4Det3.f a0_0 a0_1 a0_2 a0_3 a1_0 a1_1 a1_2 a1_3 a2_0 a2_1 a2_2 a2_3).bind fun t154 => (if t154 = 0 then ((spec_l4Cross.f a1_0 a1_1 a1_2 a1_3 a2_0 a2_1 a2_2 a2_3).bind fun bt155 => ((spec_l4Cross.f a2_0 a2_1 a2_2 a2_3 a0_0 a0_1 a0_2 a0_3).bind fun bt159 => ((spec_l4Cross.f a0_0 a0_1 a0_2 a0_3 a1_0 a1_1 a1_2 a1_3).bind fun bt163 => (spec_l6Clash3.l0 k 0 a0_0 a0_1 a0_2 a0_3 a1_0 a1_1 a1_2 a1_3 a2_0 a2_1 a2_2 a2_3 bt155.1 bt155.2.1 bt155.2.2 bt159.1 bt159.2.1 bt159.2.2 bt163.1 bt163.2.1 bt163.2.2)))) else (some false))) = some r := h
 clear h
 obtain ⟨t154, A4, H⟩ := bi H
 by_cases c5 : t154 = 0
 ·rw [if_pos c5] at H
  have c5b0 : (t154 == 0) = true := beq_iff_eq.mpr c5
  have c5b1 : (t154 != 0) = false := bne_eq_false_iff_eq.mpr c5
  clear c5
  obtain ⟨⟨t155, t156, t157⟩, A6, H⟩ := bi H
  dsimp only at H
  obtain ⟨⟨t159, t160, t161⟩, A7, H⟩ := bi H
  dsimp only at H
  obtain ⟨⟨t163, t164, t165⟩, A8, H⟩ := bi H
  dsimp only at H
  have H' := Aside0.mk H
  clear H
  go_enter Try.func162, Try.ntmps162
  go_wp2_with (first | ((with_reducible refine gate_dst (N := 3) rfl ?_); refine box_event ?hg (N := 3) ?hd (cs := #[.int .i64 a0_0, .int .i64 a0_1, .int .i64 a0_2, .int .i64 a0_3]) (t := 23) ?hr ?_; (case hd => rfl); (case hg => rfl); (case hr => first | (go_simp; done) | (go_simp; rfl)); intro gb151 hg w9 hbox hb; have n0_ := bt HB hb; have n1_ := Aside0.mk (hbox); have n2_ := gx hg HB; have n3_ := gx hg HB; clear HB; have HB := n0_; have BK151 := n1_; have GW151 := n2_; have GE151 := n3_; clear n0_ n1_ n2_ n3_; clear hb hbox hg) | ((with_reducible refine gate_dst (N := 4) rfl ?_); refine box_event ?hg (N := 4) ?hd (cs := #[.int .i64 a1_0, .int .i64 a1_1, .int .i64 a1_2, .int .i64 a1_3]) (t := 23) ?hr ?_; (case hd => rfl); (case hg => rfl); (case hr => first | (go_simp; done) | (go_simp; rfl)); intro gb152 hg w10 hbox hb; have n0_ := kb BK151 hb; have n1_ := bt HB hb; have n2_ := Aside0.mk (hbox); have n3_ := gx hg HB; have n4_ := gx hg HB; have n5_ := nl hg BK151; have n6_ := nr hg BK151; clear BK151; clear HB; have BK151 := n0_; have HB := n1_; have BK152 := n2_; have GW152 := n3_; have GE152 := n4_; have NB151_152 := n5_; have NB152_151 := n6_; clear n0_ n1_ n2_ n3_ n4_ n5_ n6_; clear hb hbox hg) | ((with_reducible refine gate_dst (N := 5) rfl ?_); refine box_event ?hg (N := 5) ?hd (cs := #[.int .i64 a2_0, .int .i64 a2_1, .int .i64 a2_2, .int .i64 a2_3]) (t := 23) ?hr ?_; (case hd => rfl); (case hg => rfl); (case hr => first | (go_simp; done) | (go_simp; rfl)); intro gb153 hg w11 hbox hb; have n0_ := kb BK151 hb; have n1_ := kb BK152 hb; have n2_ := bt HB hb; have n3_ := Aside0.mk (hbox); have n4_ := gx hg HB; have n5_ := gx hg HB; have n6_ := nl hg BK151; have n7_ := nr hg BK151; have n8_ := nl hg BK152; have n9_ := nr hg BK152; clear BK151; clear BK152; clear HB; have BK151 := n0_; have BK152 := n1_; have HB := n2_; have BK153 := n3_; have GW153 := n4_; have GE153 := n5_; have NB151_153 := n6_; have NB153_151 := n7_; have NB152_153 := n8_; have NB153_152 := n9_; clear n0_ n1_ n2_ n3_ n4_ n5_ n6_ n7_ n8_ n9_; clear hb hbox hg; have hnb12 := NB151_152.out; have hnc12 := NB152_151.out; have hnb13 := NB151_153.out; have hnc13 := NB153_151.out; obtain ⟨hcz14_0, hcz14_1, hcz14_2, hcz14_3, hfz14_0, hfz14_1, hfz14_2, hfz14_3⟩ := cz4 BK151; have hnb15 := NB152_153.out; have hnc15 := NB153_152.out; obtain ⟨hcz16_0, hcz16_1, hcz16_2, hcz16_3, hfz16_0, hfz16_1, hfz16_2, hfz16_3⟩ := cz4 BK152; obtain ⟨hcz17_0, hcz17_1, hcz17_2, hcz17_3, hfz17_0, hfz17_1, hfz17_2, hfz17_3⟩ := cz4 BK153) | ((with_reducible refine gate_callee (f := 169) rfl ?_); refine gL 14 Try.func169 #[.agg #[.int .i64 a0_0, .int .i64 a0_1, .int .i64 a0_2, .int .i64 a0_3], .agg #[.int .i64 a1_0, .int .i64 a1_1, .int .i64 a1_2, .int .i64 a1_3], .agg #[.int .i64 a2_0, .int .i64 a2_1, .int .i64 a2_2, .int .i64 a2_3]] ?_; (with_reducible refine (spec_l4Det3.calls a0_0 a0_1 a0_2 a0_3 a1_0 a1_1 a1_2 a1_3 a2_0 a2_1 a2_2 a2_3 t154 _ A4.out).mono ?_); rintro e w18 ⟨rfl, hb⟩; refine ⟨_, rfl, ?_⟩; have n0_ := kb BK151 hb; have n1_ := kb BK152 hb; have n2_ := kb BK153 hb; have n3_ := bt HB hb; clear BK151; clear BK152; clear BK153; clear HB; have BK151 := n0_; have BK152 := n1_; have BK153 := n2_; have HB := n3_; clear n0_ n1_ n2_ n3_; (try clear hb); (try clear hb2); (try clear hk); (try clear hi); obtain ⟨hcz19_0, hcz19_1, hcz19_2, hcz19_3, hfz19_0, hfz19_1, hfz19_2, hfz19_3⟩ := cz4 BK152; obtain ⟨hcz20_0, hcz20_1, hcz20_2, hcz20_3, hfz20_0, hfz20_1, hfz20_2, hfz20_3⟩ := cz4 BK153) | ((with_reducible refine gate_callee (f := 145) rfl ?_); refine gL 18 Try.func145 #[.agg #[.int .i64 a1_0, .int .i64 a1_1, .int .i64 a1_2, .int .i64 a1_3], .agg #[.int .i64 a2_0, .int .i64 a2_1, .int .i64 a2_2, .int .i64 a2_3]] ?_; (with_reducible refine (spec_l4Cross.calls a1_0 a1_1 a1_2 a1_3 a2_0 a2_1 a2_2 a2_3 t155 t156 t157 _ A6.out).mono ?_); rintro e w21 ⟨rfl, hb⟩; refine ⟨_, rfl, ?_⟩; have n0_ := kb BK151 hb; have n1_ := kb BK152 hb; have n2_ := kb BK153 hb; have n3_ := bt HB hb; clear BK151; clear BK152; clear BK153; clear HB; have BK151 := n0_; have BK152 := n1_; have BK153 := n2_; have HB := n3_; clear n0_ n1_ n2_ n3_; (try clear hb); (try clear hb2); (try clear hk); (try clear hi)) | ((with_reducible refine gate_dst (N := 7) rfl ?_); refine box_event ?hg (N := 7) ?hd (cs := #[.int .i64 0, .int .i64 0, .int .i64 0]) (t := 128) ?hr ?_; (case hd => rfl); (case hg => rfl); (case hr => first | (go_simp; done) | (go_simp; rfl)); intro gb158 hg w22 hbox hb; have n0_ := kb BK151 hb; have n1_ := kb BK152 hb; have n2_ := kb BK153 hb; have n3_ := bt HB hb; have n4_ := Aside0.mk (hbox); have n5_ := gx hg HB; have n6_ := gx hg HB; have n7_ := nl hg BK151; have n8_ := nr hg BK151; have n9_ := nl hg BK152; have n10_ := nr hg BK152; have n11_ := nl hg BK153; have n12_ := nr hg BK153; clear BK151; clear BK152; clear BK153; clear HB; have BK151 := n0_; have BK152 := n1_; have BK153 := n2_; have HB := n3_; have BK158 := n4_; have GW158 := n5_; have GE158 := n6_; have NB151_158 := n7_; have NB158_151 := n8_; have NB152_158 := n9_; have NB158_152 := n10_; have NB153_158 := n11_; have NB158_153 := n12_; clear n0_ n1_ n2_ n3_ n4_ n5_ n6_ n7_ n8_ n9_ n10_ n11_ n12_; clear hb hbox hg; have hnb23 := NB158_151.out; have hnc23 := NB151_158.out; have hnb24 := NB158_152.out; have hnc24 := NB152_158.out; have hnb25 := NB158_153.out; have hnc25 := NB153_158.out; obtain ⟨hcz26_0, hcz26_1, hcz26_2, hfz26_0, hfz26_1, hfz26_2⟩ := cz3 BK158; obtain ⟨hcz27_0, hcz27_1, hcz27_2, hcz27_3, hfz27_0, hfz27_1, hfz27_2, hfz27_3⟩ := cz4 BK153; obtain ⟨hcz28_0, hcz28_1, hcz28_2, hcz28_3, hfz28_0, hfz28_1, hfz28_2, hfz28_3⟩ := cz4 BK151) | ((with_reducible refine gate_callee (f := 145) rfl ?_); refine gL 21 Try.func145 #[.agg #[.int .i64 a2_0, .int .i64 a2_1, .int .i64 a2_2, .int .i64 a2_3], .agg #[.int .i64 a0_0, .int .i64 a0_1, .int .i64 a0_2, .int .i64 a0_3]] ?_; (with_reducible refine (spec_l4Cross.calls a2_0 a2_1 a2_2 a2_3 a0_0 a0_1 a0_2 a0_3 t159 t160 t161 _ A7.out).mono ?_); rintro e w29 ⟨rfl, hb⟩; refine ⟨_, rfl, ?_⟩; have n0_ := kf BK151 hb; have n1_ := kf BK152 hb; have n2_ := kf BK153 hb; have n3_ := kp #[.int .i64 t155, .int .i64 t156, .int .i64 t157] BK158 hb; have n4_ := bt HB hb; clear BK151; clear BK152; clear BK153; clear BK158; clear HB; have BK151 := n0_; have BK152 := n1_; have BK153 := n2_; have BK158 := n3_; have HB := n4_; clear n0_ n1_ n2_ n3_ n4_; (try clear hb); (try clear hb2); (try clear hk); (try clear hi)) | ((with_reducible refine gate_dst (N := 8) rfl ?_); refine box_event ?hg (N := 8) ?hd (cs := #[.int .i64 0, .int .i64 0, .int .i64 0]) (t := 128) ?hr ?_; (case hd => rfl); (case hg => rfl); (case hr => first | (go_simp; done) | (go_simp; rfl)); intro gb162 hg w30 hbox hb; have n0_ := kb BK151 hb; have n1_ := kb BK152 hb; have n2_ := kb BK153 hb; have n3_ := kb BK158 hb; have n4_ := bt HB hb; have n5_ := Aside0.mk (hbox); have n6_ := gx hg HB; have n7_ := gx hg HB; have n8_ := nl hg BK151; have n9_ := nr hg BK151; have n10_ := nl hg BK152; have n11_ := nr hg BK152; have n12_ := nl hg BK153; have n13_ := nr hg BK153; have n14_ := nl hg BK158; have n15_ := nr hg BK158; clear BK151; clear BK152; clear BK153; clear BK158; clear HB; have BK151 := n0_; have BK152 := n1_; have BK153 := n2_; have BK158 := n3_; have HB := n4_; have BK162 := n5_; have GW162 := n6_; have GE162 := n7_; have NB151_162 := n8_; have NB162_151 := n9_; have NB152_162 := n10_; have NB162_152 := n11_; have NB153_162 := n12_; have NB162_153 := n13_; have NB158_162 := n14_; have NB162_158 := n15_; clear n0_ n1_ n2_ n3_ n4_ n5_ n6_ n7_ n8_ n9_ n10_ n11_ n12_ n13_ n14_ n15_; clear hb hbox hg; have hnb31 := NB162_151.out; have hnc31 := NB151_162.out; have hnb32 := NB162_152.out; have hnc32 := NB152_162.out; have hnb33 := NB162_153.out; have hnc33 := NB153_162.out; have hnb34 := NB162_158.out; have hnc34 := NB158_162.out; obtain ⟨hcz35_0, hcz35_1, hcz35_2, hfz35_0, hfz35_1, hfz35_2⟩ := cz3 BK162; obtain ⟨hcz36_0, hcz36_1, hcz36_2, hcz36_3, hfz36_0, hfz36_1, hfz36_2, hfz36_3⟩ := cz4 BK151; obtain ⟨hcz37_0, hcz37_1, hcz37_2, hcz37_3, hfz37_0, hfz37_1, hfz37_2, hfz37_3⟩ := cz4 BK152) | ((with_reducible refine gate_callee (f := 145) rfl ?_); refine gL 24 Try.func145 #[.agg #[.int .i64 a0_0, .int .i64 a0_1, .int .i64 a0_2, .int .i64 a0_3], .agg #[.int .i64 a1_0, .int .i64 a1_1, .int .i64 a1_2, .int .i64 a1_3]] ?_; (with_reducible refine (spec_l4Cross.calls a0_0 a0_1 a0_2 a0_3 a1_0 a1_1 a1_2 a1_3 t163 t164 t165 _ A8.out).mono ?_); rintro e w38 ⟨rfl, hb⟩; refine ⟨_, rfl, ?_⟩; have n0_ := kf BK151 hb; have n1_ := kf BK152 hb; have n2_ := kf BK153 hb; have n3_ := kf BK158 hb; have n4_ := kp #[.int .i64 t159, .int .i64 t160, .int .i64 t161] BK162 hb; have n5_ := bt HB hb; clear BK151; clear BK152; clear BK153; clear BK158; clear BK162; clear HB; have BK151 := n0_; have BK152 := n1_; have BK153 := n2_; have BK158 := n3_; have BK162 := n4_; have HB := n5_; clear n0_ n1_ n2_ n3_ n4_ n5_; (try clear hb); (try clear hb2); (try clear hk); (try clear hi)) | ((with_reducible refine gate_dst (N := 9) rfl ?_); refine box_event ?hg (N := 9) ?hd (cs := #[.int .i64 0, .int .i64 0, .int .i64 0]) (t := 128) ?hr ?_; (case hd => rfl); (case hg => rfl); (case hr => first | (go_simp; done) | (go_simp; rfl)); intro gb166 hg w39 hbox hb; have n0_ := kb BK151 hb; have n1_ := kb BK152 hb; have n2_ := kb BK153 hb; have n3_ := kb BK158 hb; have n4_ := kb BK162 hb; have n5_ := bt HB hb; have n6_ := Aside0.mk (hbox); have n7_ := gx hg HB; have n8_ := gx hg HB; have n9_ := nl hg BK151; have n10_ := nr hg BK151; have n11_ := nl hg BK152; have n12_ := nr hg BK152; have n13_ := nl hg BK153; have n14_ := nr hg BK153; have n15_ := nl hg BK158; have n16_ := nr hg BK158; have n17_ := nl hg BK162; have n18_ := nr hg BK162; clear BK151; clear BK152; clear BK153; clear BK158; clear BK162; clear HB; have BK151 := n0_; have BK152 := n1_; have BK153 := n2_; have BK158 := n3_; have BK162 := n4_; have HB := n5_; have BK166 := n6_; have GW166 := n7_; have GE166 := n8_; have NB151_166 := n9_; have NB166_151 := n10_; have NB152_166 := n11_; have NB166_152 := n12_; have NB153_166 := n13_; have NB166_153 := n14_; have NB158_166 := n15_; have NB166_158 := n16_; have NB162_166 := n17_; have NB166_162 := n18_; clear n0_ n1_ n2_ n3_ n4_ n5_ n6_ n7_ n8_ n9_ n10_ n11_ n12_ n13_ n14_ n15_ n16_ n17_ n18_; clear hb hbox hg; have hnb40 := NB166_151.out; have hnc40 := NB151_166.out; have hnb41 := NB166_152.out; have hnc41 := NB152_166.out; have hnb42 := NB166_153.out; have hnc42 := NB153_166.out; have hnb43 := NB166_158.out; have hnc43 := NB158_166.out; have hnb44 := NB166_162.out; have hnc44 := NB162_166.out; obtain ⟨hcz45_0, hcz45_1, hcz45_2, hfz45_0, hfz45_1, hfz45_2⟩ := cz3 BK166))
  go_loopg [10] k (fun kq v10 w' => ∃ (x10_1 : Int), v10 = .int .i64 x10_1 ∧ Aside0 (spec_l6Clash3.l0 kq x10_1 a0_0 a0_1 a0_2 a0_3 a1_0 a1_1 a1_2 a1_3 a2_0 a2_1 a2_2 a2_3 t155 t156 t157 t159 t160 t161 t163 t164 t165 = some r) ∧ Aside0 (kq ≤ k) ∧ Aside0 (w'.heap[gb151]? = some (.cells #[.int .i64 a0_0, .int .i64 a0_1, .int .i64 a0_2, .int .i64 a0_3] 23 (0, 0))) ∧ Aside0 (w'.heap[gb152]? = some (.cells #[.int .i64 a1_0, .int .i64 a1_1, .int .i64 a1_2, .int .i64 a1_3] 23 (0, 0))) ∧ Aside0 (w'.heap[gb153]? = some (.cells #[.int .i64 a2_0, .int .i64 a2_1, .int .i64 a2_2, .int .i64 a2_3] 23 (0, 0))) ∧ Aside0 (w'.heap[gb158]? = some (.cells #[.int .i64 t155, .int .i64 t156, .int .i64 t157] 128 (0, 0))) ∧ Aside0 (w'.heap[gb162]? = some (.cells #[.int .i64 t159, .int .i64 t160, .int .i64 t161] 128 (0, 0))) ∧ Aside0 (w'.heap[gb166]? = some (.cells #[.int .i64 t163, .int .i64 t164, .int .i64 t165] 128 (0, 0))) ∧ Aside0 (Below w.heap.size w w'))
  case atStart => exact ⟨(0), re, H', ⟨Nat.le_refl _⟩, ⟨by (with_reducible repeat (first | refine blk_drewN ?_ _ | refine blk_drew ?_ | refine blk_alloc ?_ _)); refine blk_far ?_ NB151_166.out _; (with_reducible repeat (first | refine blk_drewN ?_ _ | refine blk_drew ?_ | refine blk_alloc ?_ _)); refine blk_far ?_ NB151_166.out _; (with_reducible repeat (first | refine blk_drewN ?_ _ | refine blk_drew ?_ | refine blk_alloc ?_ _)); refine blk_far ?_ NB151_166.out _; (with_reducible repeat (first | refine blk_drewN ?_ _ | refine blk_drew ?_ | refine blk_alloc ?_ _)); exact BK151.out⟩, ⟨by (with_reducible repeat (first | refine blk_drewN ?_ _ | refine blk_drew ?_ | refine blk_alloc ?_ _)); refine blk_far ?_ NB152_166.out _; (with_reducible repeat (first | refine blk_drewN ?_ _ | refine blk_drew ?_ | refine blk_alloc ?_ _)); refine blk_far ?_ NB152_166.out _; (with_reducible repeat (first | refine blk_drewN ?_ _ | refine blk_drew ?_ | refine blk_alloc ?_ _)); refine blk_far ?_ NB152_166.out _; (with_reducible repeat (first | refine blk_drewN ?_ _ | refine blk_drew ?_ | refine blk_alloc ?_ _)); exact BK152.out⟩, ⟨by (with_reducible repeat (first | refine blk_drewN ?_ _ | refine blk_drew ?_ | refine blk_alloc ?_ _)); refine blk_far ?_ NB153_166.out _; (with_reducible repeat (first | refine blk_drewN ?_ _ | refine blk_drew ?_ | refine blk_alloc ?_ _)); refine blk_far ?_ NB153_166.out _; (with_reducible repeat (first | refine blk_drewN ?_ _ | refine blk_drew ?_ | refine blk_alloc ?_ _)); refine blk_far ?_ NB153_166.out _; (with_reducible repeat (first | refine blk_drewN ?_ _ | refine blk_drew ?_ | refine blk_alloc ?_ _)); exact BK153.out⟩, ⟨by (with_reducible repeat (first | refine blk_drewN ?_ _ | refine blk_drew ?_ | refine blk_alloc ?_ _)); refine blk_far ?_ NB158_166.out _; (with_reducible repeat (first | refine blk_drewN ?_ _ | refine blk_drew ?_ | refine blk_alloc ?_ _)); refine blk_far ?_ NB158_166.out _; (with_reducible repeat (first | refine blk_drewN ?_ _ | refine blk_drew ?_ | refine blk_alloc ?_ _)); refine blk_far ?_ NB158_166.out _; (with_reducible repeat (first | refine blk_drewN ?_ _ | refine blk_drew ?_ | refine blk_alloc ?_ _)); exact BK158.out⟩, ⟨by (with_reducible repeat (first | refine blk_drewN ?_ _ | refine blk_drew ?_ | refine blk_alloc ?_ _)); refine blk_far ?_ NB162_166.out _; (with_reducible repeat (first | refine blk_drewN ?_ _ | refine blk_drew ?_ | refine blk_alloc ?_ _)); refine blk_far ?_ NB162_166.out _; (with_reducible repeat (first | refine blk_drewN ?_ _ | refine blk_drew ?_ | refine blk_alloc ?_ _)); refine blk_far ?_ NB162_166.out _; (with_reducible repeat (first | refine blk_drewN ?_ _ | refine blk_drew ?_ | refine blk_alloc ?_ _)); exact BK162.out⟩, ⟨by (with_reducible repeat (first | refine blk_drewN ?_ _ | refine blk_drew ?_ | refine blk_alloc ?_ _)); refine blk_put (cs := #[.int .i64 t163, .int .i64 t164, .int .i64 0]) ?_ 2 _ rfl; (with_reducible repeat (first | refine blk_drewN ?_ _ | refine blk_drew ?_ | refine blk_alloc ?_ _)); refine blk_put (cs := #[.int .i64 t163, .int .i64 0, .int .i64 0]) ?_ 1 _ rfl; (with_reducible repeat (first | refine blk_drewN ?_ _ | refine blk_drew ?_ | refine blk_alloc ?_ _)); refine blk_put (cs := #[.int .i64 0, .int .i64 0, .int .i64 0]) ?_ 0 _ rfl; (with_reducible repeat (first | refine blk_drewN ?_ _ | refine blk_drew ?_ | refine blk_alloc ?_ _)); exact BK166.out⟩, ⟨by repeat (first | (with_reducible first | exact HB.out | apply below_alloc | apply pw_below_drewN | apply below_drew1 | refine below_set ?_ GE151.out | refine below_set ?_ GE152.out | refine below_set ?_ GE153.out | refine below_set ?_ GE158.out | refine below_set ?_ GE162.out | refine below_set ?_ GE166.out) | exact HB.out)⟩⟩
  case round =>
   clear H'
   try clear c1
   try clear c2
   try clear p2
   try clear c3
   try clear c4
   try clear c5
   try clear c5b0
   try clear c5b1
   try clear p6
   try clear c12
   try clear c13
   try clear c14
   try clear c15
   try clear c16
   try clear c23
   try clear c24
   try clear c25
   try clear c31
   try clear c32
   try clear c33
   try clear c34
   try clear c40
   try clear c41
   try clear c42
   try clear c43
   try clear c44
   try clear hcz14_0
   try clear hcz14_1
   try clear hcz14_2
   try clear hcz14_3
   try clear hcz16_0
   try clear hcz16_1
   try clear hcz16_2
   try clear hcz16_3
   try clear hcz17_0
   try clear hcz17_1
   try clear hcz17_2
   try clear hcz17_3
   try clear hcz19_0
   try clear hcz19_1
   try clear hcz19_2
   try clear hcz19_3
   try clear hcz20_0
   try clear hcz20_1
   try clear hcz20_2
   try clear hcz20_3
   try clear hcz26_0
   try clear hcz26_1
   try clear hcz26_2
   try clear hcz27_0
   try clear hcz27_1
   try clear hcz27_2
   try clear hcz27_3
   try clear hcz28_0
   try clear hcz28_1
   try clear hcz28_2
   try clear hcz28_3
   try clear hcz35_0
   try clear hcz35_1
   try clear hcz35_2
   try clear hcz36_0
   try clear hcz36_1
   try clear hcz36_2
   try clear hcz36_3
   try clear hcz37_0
   try clear hcz37_1
   try clear hcz37_2
   try clear hcz37_3
   try clear hcz45_0
   try clear hcz45_1
   try clear hcz45_2
   try clear hfz14_0
   try clear hfz14_1
   try clear hfz14_2
   try clear hfz14_3
   try clear hfz16_0
   try clear hfz16_1
   try clear hfz16_2
   try clear hfz16_3
   try clear hfz17_0
   try clear hfz17_1
   try clear hfz17_2
   try clear hfz17_3
   try clear hfz19_0
   try clear hfz19_1
   try clear hfz19_2
   try clear hfz19_3
   try clear hfz20_0
   try clear hfz20_1
   try clear hfz20_2
   try clear hfz20_3
   try clear hfz26_0
   try clear hfz26_1
   try clear hfz26_2
   try clear hfz27_0
   try clear hfz27_1
   try clear hfz27_2
   try clear hfz27_3
   try clear hfz28_0
   try clear hfz28_1
   try clear hfz28_2
   try clear hfz28_3
   try clear hfz35_0
   try clear hfz35_1
   try clear hfz35_2
   try clear hfz36_0
   try clear hfz36_1
   try clear hfz36_2
   try clear hfz36_3
   try clear hfz37_0
   try clear hfz37_1
   try clear hfz37_2
   try clear hfz37_3
   try clear hfz45_0
   try clear hfz45_1
   try clear hfz45_2
   obtain ⟨x10_1, rfl, HA, HK1, BK151, BK152, BK153, BK158, BK162, BK166, HB⟩ := hrel
   cases gk with
   | zero => exact absurd HA.out (by simp [spec_l6Clash3.l0])
   | succ k1 =>
    have H := HA.out
    clear HA
    simp only [spec_l6Clash3.l0] at H
    by_cases c46 : x10_1 < 3
    ·rw [if_pos c46] at H
     have c46b0 : decide (x10_1 < 3) = true := decide_eq_true c46
     clear c46
     have HC47 := Aside0.mk H
     clear H
     go_upto_region 9 with (fail)
     go_cut [44] (fun v44 wc => ∃ (kq : Nat) (x44_46 : Bool), v44 = .bool x44_46 ∧ Aside0 (spec_l6Clash3.j1 kq x10_1 x44_46 a0_0 a0_1 a0_2 a0_3 a1_0 a1_1 a1_2 a1_3 a2_0 a2_1 a2_2 a2_3 t155 t156 t157 t159 t160 t161 t163 t164 t165 = some r) ∧ Aside0 (kq ≤ k1) ∧ Aside0 (wc.heap[gb151]? = some (.cells #[.int .i64 a0_0, .int .i64 a0_1, .int .i64 a0_2, .int .i64 a0_3] 23 (0, 0))) ∧ Aside0 (wc.heap[gb152]? = some (.cells #[.int .i64 a1_0, .int .i64 a1_1, .int .i64 a1_2, .int .i64 a1_3] 23 (0, 0))) ∧ Aside0 (wc.heap[gb153]? = some (.cells #[.int .i64 a2_0, .int .i64 a2_1, .int .i64 a2_2, .int .i64 a2_3] 23 (0, 0))) ∧ Aside0 (wc.heap[gb158]? = some (.cells #[.int .i64 t155, .int .i64 t156, .int .i64 t157] 128 (0, 0))) ∧ Aside0 (wc.heap[gb162]? = some (.cells #[.int .i64 t159, .int .i64 t160, .int .i64 t161] 128 (0, 0))) ∧ Aside0 (wc.heap[gb166]? = some (.cells #[.int .i64 t163, .int .i64 t164, .int .i64 t165] 128 (0, 0))) ∧ Aside0 (Below w.heap.size w wc))
     case first =>
      have H := HC47.out
      clear HC47
      by_cases c48 : x10_1 = 0
      ·subst c48
       have H1 : (if t155 = 0 then (if t159 = 0 then (spec_l6Clash3.j1 k1 0 (t163 != 0) a0_0 a0_1 a0_2 a0_3 a1_0 a1_1 a1_2 a1_3 a2_0 a2_1 a2_2 a2_3 t155 t156 t157 t159 t160 t161 t163 t164 t165) else (spec_l6Clash3.j1 k1 0 true a0_0 a0_1 a0_2 a0_3 a1_0 a1_1 a1_2 a1_3 a2_0 a2_1 a2_2 a2_3 t155 t156 t157 t159 t160 t161 t163 t164 t165)) else (spec_l6Clash3.j1 k1 0 true a0_0 a0_1 a0_2 a0_3 a1_0 a1_1 a1_2 a1_3 a2_0 a2_1 a2_2 a2_3 t155 t156 t157 t159 t160 t161 t163 t164 t165)) = some r := by rw [if_pos rfl] at H; exact H
       clear H
       have H := H1
       clear H1
       by_cases c49 : t155 = 0
       ·rw [if_pos c49] at H
        have c49b0 : (t155 == 0) = true := beq_iff_eq.mpr c49
        have c49b1 : (t155 != 0) = false := bne_eq_false_iff_eq.mpr c49
        clear c49
        (first | rw [c49b0] | (simp only [i64_w, i32_w]; rw [c49b0]) | skip)
        by_cases c50 : t159 = 0
        ·rw [if_pos c50] at H
         have c50b0 : (t159 == 0) = true := beq_iff_eq.mpr c50
         have c50b1 : (t159 != 0) = false := bne_eq_false_iff_eq.mpr c50
         clear c50
         have H' := Aside0.mk H
         clear H
         have hnb51 := NB158_151.out
         have hnc51 := NB151_158.out
         have hnb52 := NB158_152.out
         have hnc52 := NB152_158.out
         have hnb53 := NB158_153.out
         have hnc53 := NB153_158.out
         have hnb54 := NB158_162.out
         have hnc54 := NB162_158.out
         have hnb55 := NB158_166.out
         have hnc55 := NB166_158.out
         obtain ⟨hcz56_0, hcz56_1, hcz56_2, hfz56_0, hfz56_1, hfz56_2⟩ := cz3 BK158
         have hnb57 := NB162_151.out
         have hnc57 := NB151_162.out
         have hnb58 := NB162_152.out
         have hnc58 := NB152_162.out
         have hnb59 := NB162_153.out
         have hnc59 := NB153_162.out
         have hnb60 := NB162_166.out
         have hnc60 := NB166_162.out
         obtain ⟨hcz61_0, hcz61_1, hcz61_2, hfz61_0, hfz61_1, hfz61_2⟩ := cz3 BK162
         have hnb62 := NB166_151.out
         have hnc62 := NB151_166.out
         have hnb63 := NB166_152.out
         have hnc63 := NB152_166.out
         have hnb64 := NB166_153.out
         have hnc64 := NB153_166.out
         obtain ⟨hcz65_0, hcz65_1, hcz65_2, hfz65_0, hfz65_1, hfz65_2⟩ := cz3 BK166
         go_wp2
         go_meet
         case rel => exact ⟨_, ((t163 != 0)), re, H', ⟨by have := HK1.out; first | omega | exact Nat.le_refl _⟩, ⟨by (with_reducible repeat (first | refine blk_drewN ?_ _ | refine blk_drew ?_ | refine blk_alloc ?_ _)); exact BK151.out⟩, ⟨by (with_reducible repeat (first | refine blk_drewN ?_ _ | refine blk_drew ?_ | refine blk_alloc ?_ _)); exact BK152.out⟩, ⟨by (with_reducible repeat (first | refine blk_drewN ?_ _ | refine blk_drew ?_ | refine blk_alloc ?_ _)); exact BK153.out⟩, ⟨by (with_reducible repeat (first | refine blk_drewN ?_ _ | refine blk_drew ?_ | refine blk_alloc ?_ _)); exact BK158.out⟩, ⟨by (with_reducible repeat (first | refine blk_drewN ?_ _ | refine blk_drew ?_ | refine blk_alloc ?_ _)); exact BK162.out⟩, ⟨by (with_reducible repeat (first | refine blk_drewN ?_ _ | refine blk_drew ?_ | refine blk_alloc ?_ _)); exact BK166.out⟩, ⟨by repeat (first | (with_reducible first | exact HB.out | apply below_alloc | apply pw_below_drewN | apply below_drew1 | refine below_set ?_ GE151.out | refine below_set ?_ GE152.out | refine below_set ?_ GE153.out | refine below_set ?_ GE158.out | refine below_set ?_ GE162.out | refine below_set ?_ GE166.out) | exact HB.out)⟩⟩
        ·rw [if_neg c50] at H
         have c50b0 : (t159 == 0) = false := beq_eq_false_iff_ne.mpr c50
         have c50b1 : (t159 != 0) = true := bne_iff_ne.mpr c50
         have H' := Aside0.mk H
         clear H
         have hnb66 := NB158_151.out
         have hnc66 := NB151_158.out
         have hnb67 := NB158_152.out
         have hnc67 := NB152_158.out
         have hnb68 := NB158_153.out
         have hnc68 := NB153_158.out
         have hnb69 := NB158_162.out
         have hnc69 := NB162_158.out
         have hnb70 := NB158_166.out
         have hnc70 := NB166_158.out
         obtain ⟨hcz71_0, hcz71_1, hcz71_2, hfz71_0, hfz71_1, hfz71_2⟩ := cz3 BK158
         have hnb72 := NB162_151.out
         have hnc72 := NB151_162.out
         have hnb73 := NB162_152.out
         have hnc73 := NB152_162.out
         have hnb74 := NB162_153.out
         have hnc74 := NB153_162.out
         have hnb75 := NB162_166.out
         have hnc75 := NB166_162.out
         obtain ⟨hcz76_0, hcz76_1, hcz76_2, hfz76_0, hfz76_1, hfz76_2⟩ := cz3 BK162
         go_wp2
         go_meet
         case rel => exact ⟨_, (true), re, H', ⟨by have := HK1.out; first | omega | exact Nat.le_refl _⟩, ⟨by (with_reducible repeat (first | refine blk_drewN ?_ _ | refine blk_drew ?_ | refine blk_alloc ?_ _)); exact BK151.out⟩, ⟨by (with_reducible repeat (first | refine blk_drewN ?_ _ | refine blk_drew ?_ | refine blk_alloc ?_ _)); exact BK152.out⟩, ⟨by (with_reducible repeat (first | refine blk_drewN ?_ _ | refine blk_drew ?_ | refine blk_alloc ?_ _)); exact BK153.out⟩, ⟨by (with_reducible repeat (first | refine blk_drewN ?_ _ | refine blk_drew ?_ | refine blk_alloc ?_ _)); exact BK158.out⟩, ⟨by (with_reducible repeat (first | refine blk_drewN ?_ _ | refine blk_drew ?_ | refine blk_alloc ?_ _)); exact BK162.out⟩, ⟨by (with_reducible repeat (first | refine blk_drewN ?_ _ | refine blk_drew ?_ | refine blk_alloc ?_ _)); exact BK166.out⟩, ⟨by repeat (first | (with_reducible first | exact HB.out | apply below_alloc | apply pw_below_drewN | apply below_drew1 | refine below_set ?_ GE151.out | refine below_set ?_ GE152.out | refine below_set ?_ GE153.out | refine below_set ?_ GE158.out | refine below_set ?_ GE162.out | refine below_set ?_ GE166.out) | exact HB.out)⟩⟩
       ·rw [if_neg c49] at H
        have c49b0 : (t155 == 0) = false := beq_eq_false_iff_ne.mpr c49
        have c49b1 : (t155 != 0) = true := bne_iff_ne.mpr c49
        (first | rw [c49b0] | (simp only [i64_w, i32_w]; rw [c49b0]) | skip)
        have H' := Aside0.mk H
        clear H
        have hnb77 := NB158_151.out
        have hnc77 := NB151_158.out
        have hnb78 := NB158_152.out
        have hnc78 := NB152_158.out
        have hnb79 := NB158_153.out
        have hnc79 := NB153_158.out
        have hnb80 := NB158_162.out
        have hnc80 := NB162_158.out
        have hnb81 := NB158_166.out
        have hnc81 := NB166_158.out
        obtain ⟨hcz82_0, hcz82_1, hcz82_2, hfz82_0, hfz82_1, hfz82_2⟩ := cz3 BK158
        go_wp2
        go_meet
        case rel => exact ⟨_, (true), re, H', ⟨by have := HK1.out; first | omega | exact Nat.le_refl _⟩, ⟨by (with_reducible repeat (first | refine blk_drewN ?_ _ | refine blk_drew ?_ | refine blk_alloc ?_ _)); exact BK151.out⟩, ⟨by (with_reducible repeat (first | refine blk_drewN ?_ _ | refine blk_drew ?_ | refine blk_alloc ?_ _)); exact BK152.out⟩, ⟨by (with_reducible repeat (first | refine blk_drewN ?_ _ | refine blk_drew ?_ | refine blk_alloc ?_ _)); exact BK153.out⟩, ⟨by (with_reducible repeat (first | refine blk_drewN ?_ _ | refine blk_drew ?_ | refine blk_alloc ?_ _)); exact BK158.out⟩, ⟨by (with_reducible repeat (first | refine blk_drewN ?_ _ | refine blk_drew ?_ | refine blk_alloc ?_ _)); exact BK162.out⟩, ⟨by (with_reducible repeat (first | refine blk_drewN ?_ _ | refine blk_drew ?_ | refine blk_alloc ?_ _)); exact BK166.out⟩, ⟨by repeat (first | (with_reducible first | exact HB.out | apply below_alloc | apply pw_below_drewN | apply below_drew1 | refine below_set ?_ GE151.out | refine below_set ?_ GE152.out | refine below_set ?_ GE153.out | refine below_set ?_ GE158.out | refine below_set ?_ GE162.out | refine below_set ?_ GE166.out) | exact HB.out)⟩⟩
      ·rw [if_neg c48] at H
       by_cases c83 : x10_1 = 1
       ·subst c83
        have H1 : (if t156 = 0 then (if t160 = 0 then (spec_l6Clash3.j1 k1 1 (t164 != 0) a0_0 a0_1 a0_2 a0_3 a1_0 a1_1 a1_2 a1_3 a2_0 a2_1 a2_2 a2_3 t155 t156 t157 t159 t160 t161 t163 t164 t165) else (spec_l6Clash3.j1 k1 1 true a0_0 a0_1 a0_2 a0_3 a1_0 a1_1 a1_2 a1_3 a2_0 a2_1 a2_2 a2_3 t155 t156 t157 t159 t160 t161 t163 t164 t165)) else (spec_l6Clash3.j1 k1 1 true a0_0 a0_1 a0_2 a0_3 a1_0 a1_1 a1_2 a1_3 a2_0 a2_1 a2_2 a2_3 t155 t156 t157 t159 t160 t161 t163 t164 t165)) = some r := by rw [if_pos rfl] at H; exact H
        clear H
        have H := H1
        clear H1
        by_cases c84 : t156 = 0
        ·rw [if_pos c84] at H
         have c84b0 : (t156 == 0) = true := beq_iff_eq.mpr c84
         have c84b1 : (t156 != 0) = false := bne_eq_false_iff_eq.mpr c84
         clear c84
         by_cases c85 : t160 = 0
         ·rw [if_pos c85] at H
          have c85b0 : (t160 == 0) = true := beq_iff_eq.mpr c85
          have c85b1 : (t160 != 0) = false := bne_eq_false_iff_eq.mpr c85
          clear c85
          have H' := Aside0.mk H
          clear H
          have hnb86 := NB158_151.out
          have hnc86 := NB151_158.out
          have hnb87 := NB158_152.out
          have hnc87 := NB152_158.out
          have hnb88 := NB158_153.out
          have hnc88 := NB153_158.out
          have hnb89 := NB158_162.out
          have hnc89 := NB162_158.out
          have hnb90 := NB158_166.out
          have hnc90 := NB166_158.out
          obtain ⟨hcz91_0, hcz91_1, hcz91_2, hfz91_0, hfz91_1, hfz91_2⟩ := cz3 BK158
          have hnb92 := NB162_151.out
          have hnc92 := NB151_162.out
          have hnb93 := NB162_152.out
          have hnc93 := NB152_162.out
          have hnb94 := NB162_153.out
          have hnc94 := NB153_162.out
          have hnb95 := NB162_166.out
          have hnc95 := NB166_162.out
          obtain ⟨hcz96_0, hcz96_1, hcz96_2, hfz96_0, hfz96_1, hfz96_2⟩ := cz3 BK162
          have hnb97 := NB166_151.out
          have hnc97 := NB151_166.out
          have hnb98 := NB166_152.out
          have hnc98 := NB152_166.out
          have hnb99 := NB166_153.out
          have hnc99 := NB153_166.out
          obtain ⟨hcz100_0, hcz100_1, hcz100_2, hfz100_0, hfz100_1, hfz100_2⟩ := cz3 BK166
          go_wp2
          go_meet
          case rel => exact ⟨_, ((t164 != 0)), re, H', ⟨by have := HK1.out; first | omega | exact Nat.le_refl _⟩, ⟨by (with_reducible repeat (first | refine blk_drewN ?_ _ | refine blk_drew ?_ | refine blk_alloc ?_ _)); exact BK151.out⟩, ⟨by (with_reducible repeat (first | refine blk_drewN ?_ _ | refine blk_drew ?_ | refine blk_alloc ?_ _)); exact BK152.out⟩, ⟨by (with_reducible repeat (first | refine blk_drewN ?_ _ | refine blk_drew ?_ | refine blk_alloc ?_ _)); exact BK153.out⟩, ⟨by (with_reducible repeat (first | refine blk_drewN ?_ _ | refine blk_drew ?_ | refine blk_alloc ?_ _)); exact BK158.out⟩, ⟨by (with_reducible repeat (first | refine blk_drewN ?_ _ | refine blk_drew ?_ | refine blk_alloc ?_ _)); exact BK162.out⟩, ⟨by (with_reducible repeat (first | refine blk_drewN ?_ _ | refine blk_drew ?_ | refine blk_alloc ?_ _)); exact BK166.out⟩, ⟨by repeat (first | (with_reducible first | exact HB.out | apply below_alloc | apply pw_below_drewN | apply below_drew1 | refine below_set ?_ GE151.out | refine below_set ?_ GE152.out | refine below_set ?_ GE153.out | refine below_set ?_ GE158.out | refine below_set ?_ GE162.out | refine below_set ?_ GE166.out) | exact HB.out)⟩⟩
         ·rw [if_neg c85] at H
          have c85b0 : (t160 == 0) = false := beq_eq_false_iff_ne.mpr c85
          have c85b1 : (t160 != 0) = true := bne_iff_ne.mpr c85
          have H' := Aside0.mk H
          clear H
          have hnb101 := NB158_151.out
          have hnc101 := NB151_158.out
          have hnb102 := NB158_152.out
          have hnc102 := NB152_158.out
          have hnb103 := NB158_153.out
          have hnc103 := NB153_158.out
          have hnb104 := NB158_162.out
          have hnc104 := NB162_158.out
          have hnb105 := NB158_166.out
          have hnc105 := NB166_158.out
          obtain ⟨hcz106_0, hcz106_1, hcz106_2, hfz106_0, hfz106_1, hfz106_2⟩ := cz3 BK158
          have hnb107 := NB162_151.out
          have hnc107 := NB151_162.out
          have hnb108 := NB162_152.out
          have hnc108 := NB152_162.out
          have hnb109 := NB162_153.out
          have hnc109 := NB153_162.out
          have hnb110 := NB162_166.out
          have hnc110 := NB166_162.out
          obtain ⟨hcz111_0, hcz111_1, hcz111_2, hfz111_0, hfz111_1, hfz111_2⟩ := cz3 BK162
          go_wp2
          go_meet
          case rel => exact ⟨_, (true), re, H', ⟨by have := HK1.out; first | omega | exact Nat.le_refl _⟩, ⟨by (with_reducible repeat (first | refine blk_drewN ?_ _ | refine blk_drew ?_ | refine blk_alloc ?_ _)); exact BK151.out⟩, ⟨by (with_reducible repeat (first | refine blk_drewN ?_ _ | refine blk_drew ?_ | refine blk_alloc ?_ _)); exact BK152.out⟩, ⟨by (with_reducible repeat (first | refine blk_drewN ?_ _ | refine blk_drew ?_ | refine blk_alloc ?_ _)); exact BK153.out⟩, ⟨by (with_reducible repeat (first | refine blk_drewN ?_ _ | refine blk_drew ?_ | refine blk_alloc ?_ _)); exact BK158.out⟩, ⟨by (with_reducible repeat (first | refine blk_drewN ?_ _ | refine blk_drew ?_ | refine blk_alloc ?_ _)); exact BK162.out⟩, ⟨by (with_reducible repeat (first | refine blk_drewN ?_ _ | refine blk_drew ?_ | refine blk_alloc ?_ _)); exact BK166.out⟩, ⟨by repeat (first | (with_reducible first | exact HB.out | apply below_alloc | apply pw_below_drewN | apply below_drew1 | refine below_set ?_ GE151.out | refine below_set ?_ GE152.out | refine below_set ?_ GE153.out | refine below_set ?_ GE158.out | refine below_set ?_ GE162.out | refine below_set ?_ GE166.out) | exact HB.out)⟩⟩
        ·rw [if_neg c84] at H
         have c84b0 : (t156 == 0) = false := beq_eq_false_iff_ne.mpr c84
         have c84b1 : (t156 != 0) = true := bne_iff_ne.mpr c84
         have H' := Aside0.mk H
         clear H
         have hnb112 := NB158_151.out
         have hnc112 := NB151_158.out
         have hnb113 := NB158_152.out
         have hnc113 := NB152_158.out
         have hnb114 := NB158_153.out
         have hnc114 := NB153_158.out
         have hnb115 := NB158_162.out
         have hnc115 := NB162_158.out
         have hnb116 := NB158_166.out
         have hnc116 := NB166_158.out
         obtain ⟨hcz117_0, hcz117_1, hcz117_2, hfz117_0, hfz117_1, hfz117_2⟩ := cz3 BK158
         go_wp2
         go_meet
         case rel => exact ⟨_, (true), re, H', ⟨by have := HK1.out; first | omega | exact Nat.le_refl _⟩, ⟨by (with_reducible repeat (first | refine blk_drewN ?_ _ | refine blk_drew ?_ | refine blk_alloc ?_ _)); exact BK151.out⟩, ⟨by (with_reducible repeat (first | refine blk_drewN ?_ _ | refine blk_drew ?_ | refine blk_alloc ?_ _)); exact BK152.out⟩, ⟨by (with_reducible repeat (first | refine blk_drewN ?_ _ | refine blk_drew ?_ | refine blk_alloc ?_ _)); exact BK153.out⟩, ⟨by (with_reducible repeat (first | refine blk_drewN ?_ _ | refine blk_drew ?_ | refine blk_alloc ?_ _)); exact BK158.out⟩, ⟨by (with_reducible repeat (first | refine blk_drewN ?_ _ | refine blk_drew ?_ | refine blk_alloc ?_ _)); exact BK162.out⟩, ⟨by (with_reducible repeat (first | refine blk_drewN ?_ _ | refine blk_drew ?_ | refine blk_alloc ?_ _)); exact BK166.out⟩, ⟨by repeat (first | (with_reducible first | exact HB.out | apply below_alloc | apply pw_below_drewN | apply below_drew1 | refine below_set ?_ GE151.out | refine below_set ?_ GE152.out | refine below_set ?_ GE153.out | refine below_set ?_ GE158.out | refine below_set ?_ GE162.out | refine below_set ?_ GE166.out) | exact HB.out)⟩⟩
       ·rw [if_neg c83] at H
        by_cases c118 : x10_1 = 2
        ·subst c118
         have H1 : (if t157 = 0 then (if t161 = 0 then (spec_l6Clash3.j1 k1 2 (t165 != 0) a0_0 a0_1 a0_2 a0_3 a1_0 a1_1 a1_2 a1_3 a2_0 a2_1 a2_2 a2_3 t155 t156 t157 t159 t160 t161 t163 t164 t165) else (spec_l6Clash3.j1 k1 2 true a0_0 a0_1 a0_2 a0_3 a1_0 a1_1 a1_2 a1_3 a2_0 a2_1 a2_2 a2_3 t155 t156 t157 t159 t160 t161 t163 t164 t165)) else (spec_l6Clash3.j1 k1 2 true a0_0 a0_1 a0_2 a0_3 a1_0 a1_1 a1_2 a1_3 a2_0 a2_1 a2_2 a2_3 t155 t156 t157 t159 t160 t161 t163 t164 t165)) = some r := by rw [if_pos rfl] at H; exact H
         clear H
         have H := H1
         clear H1
         by_cases c119 : t157 = 0
         ·rw [if_pos c119] at H
          have c119b0 : (t157 == 0) = true := beq_iff_eq.mpr c119
          have c119b1 : (t157 != 0) = false := bne_eq_false_iff_eq.mpr c119
          clear c119
          by_cases c120 : t161 = 0
          ·rw [if_pos c120] at H
           have c120b0 : (t161 == 0) = true := beq_iff_eq.mpr c120
           have c120b1 : (t161 != 0) = false := bne_eq_false_iff_eq.mpr c120
           clear c120
           have H' := Aside0.mk H
           clear H
           have hnb121 := NB158_151.out
           have hnc121 := NB151_158.out
           have hnb122 := NB158_152.out
           have hnc122 := NB152_158.out
           have hnb123 := NB158_153.out
           have hnc123 := NB153_158.out
           have hnb124 := NB158_162.out
           have hnc124 := NB162_158.out
           have hnb125 := NB158_166.out
           have hnc125 := NB166_158.out
           obtain ⟨hcz126_0, hcz126_1, hcz126_2, hfz126_0, hfz126_1, hfz126_2⟩ := cz3 BK158
           have hnb127 := NB162_151.out
           have hnc127 := NB151_162.out
           have hnb128 := NB162_152.out
           have hnc128 := NB152_162.out
           have hnb129 := NB162_153.out
           have hnc129 := NB153_162.out
           have hnb130 := NB162_166.out
           have hnc130 := NB166_162.out
           obtain ⟨hcz131_0, hcz131_1, hcz131_2, hfz131_0, hfz131_1, hfz131_2⟩ := cz3 BK162
           have hnb132 := NB166_151.out
           have hnc132 := NB151_166.out
           have hnb133 := NB166_152.out
           have hnc133 := NB152_166.out
           have hnb134 := NB166_153.out
           have hnc134 := NB153_166.out
           obtain ⟨hcz135_0, hcz135_1, hcz135_2, hfz135_0, hfz135_1, hfz135_2⟩ := cz3 BK166
           go_wp2
           go_meet
           case rel => exact ⟨_, ((t165 != 0)), re, H', ⟨by have := HK1.out; first | omega | exact Nat.le_refl _⟩, ⟨by (with_reducible repeat (first | refine blk_drewN ?_ _ | refine blk_drew ?_ | refine blk_alloc ?_ _)); exact BK151.out⟩, ⟨by (with_reducible repeat (first | refine blk_drewN ?_ _ | refine blk_drew ?_ | refine blk_alloc ?_ _)); exact BK152.out⟩, ⟨by (with_reducible repeat (first | refine blk_drewN ?_ _ | refine blk_drew ?_ | refine blk_alloc ?_ _)); exact BK153.out⟩, ⟨by (with_reducible repeat (first | refine blk_drewN ?_ _ | refine blk_drew ?_ | refine blk_alloc ?_ _)); exact BK158.out⟩, ⟨by (with_reducible repeat (first | refine blk_drewN ?_ _ | refine blk_drew ?_ | refine blk_alloc ?_ _)); exact BK162.out⟩, ⟨by (with_reducible repeat (first | refine blk_drewN ?_ _ | refine blk_drew ?_ | refine blk_alloc ?_ _)); exact BK166.out⟩, ⟨by repeat (first | (with_reducible first | exact HB.out | apply below_alloc | apply pw_below_drewN | apply below_drew1 | refine below_set ?_ GE151.out | refine below_set ?_ GE152.out | refine below_set ?_ GE153.out | refine below_set ?_ GE158.out | refine below_set ?_ GE162.out | refine below_set ?_ GE166.out) | exact HB.out)⟩⟩
          ·rw [if_neg c120] at H
           have c120b0 : (t161 == 0) = false := beq_eq_false_iff_ne.mpr c120
           have c120b1 : (t161 != 0) = true := bne_iff_ne.mpr c120
           have H' := Aside0.mk H
           clear H
           have hnb136 := NB158_151.out
           have hnc136 := NB151_158.out
           have hnb137 := NB158_152.out
           have hnc137 := NB152_158.out
           have hnb138 := NB158_153.out
           have hnc138 := NB153_158.out
           have hnb139 := NB158_162.out
           have hnc139 := NB162_158.out
           have hnb140 := NB158_166.out
           have hnc140 := NB166_158.out
           obtain ⟨hcz141_0, hcz141_1, hcz141_2, hfz141_0, hfz141_1, hfz141_2⟩ := cz3 BK158
           have hnb142 := NB162_151.out
           have hnc142 := NB151_162.out
           have hnb143 := NB162_152.out
           have hnc143 := NB152_162.out
           have hnb144 := NB162_153.out
           have hnc144 := NB153_162.out
           have hnb145 := NB162_166.out
           have hnc145 := NB166_162.out
           obtain ⟨hcz146_0, hcz146_1, hcz146_2, hfz146_0, hfz146_1, hfz146_2⟩ := cz3 BK162
           go_wp2
           go_meet
           case rel => exact ⟨_, (true), re, H', ⟨by have := HK1.out; first | omega | exact Nat.le_refl _⟩, ⟨by (with_reducible repeat (first | refine blk_drewN ?_ _ | refine blk_drew ?_ | refine blk_alloc ?_ _)); exact BK151.out⟩, ⟨by (with_reducible repeat (first | refine blk_drewN ?_ _ | refine blk_drew ?_ | refine blk_alloc ?_ _)); exact BK152.out⟩, ⟨by (with_reducible repeat (first | refine blk_drewN ?_ _ | refine blk_drew ?_ | refine blk_alloc ?_ _)); exact BK153.out⟩, ⟨by (with_reducible repeat (first | refine blk_drewN ?_ _ | refine blk_drew ?_ | refine blk_alloc ?_ _)); exact BK158.out⟩, ⟨by (with_reducible repeat (first | refine blk_drewN ?_ _ | refine blk_drew ?_ | refine blk_alloc ?_ _)); exact BK162.out⟩, ⟨by (with_reducible repeat (first | refine blk_drewN ?_ _ | refine blk_drew ?_ | refine blk_alloc ?_ _)); exact BK166.out⟩, ⟨by repeat (first | (with_reducible first | exact HB.out | apply below_alloc | apply pw_below_drewN | apply below_drew1 | refine below_set ?_ GE151.out | refine below_set ?_ GE152.out | refine below_set ?_ GE153.out | refine below_set ?_ GE158.out | refine below_set ?_ GE162.out | refine below_set ?_ GE166.out) | exact HB.out)⟩⟩
         ·rw [if_neg c119] at H
          have c119b0 : (t157 == 0) = false := beq_eq_false_iff_ne.mpr c119
          have c119b1 : (t157 != 0) = true := bne_iff_ne.mpr c119
          have H' := Aside0.mk H
          clear H
          have hnb147 := NB158_151.out
          have hnc147 := NB151_158.out
          have hnb148 := NB158_152.out
          have hnc148 := NB152_158.out
          have hnb149 := NB158_153.out
          have hnc149 := NB153_158.out
          have hnb150 := NB158_162.out
          have hnc150 := NB162_158.out
          have hnb151 := NB158_166.out
          have hnc151 := NB166_158.out
          obtain ⟨hcz152_0, hcz152_1, hcz152_2, hfz152_0, hfz152_1, hfz152_2⟩ := cz3 BK158
          go_wp2
          go_meet
          case rel => exact ⟨_, (true), re, H', ⟨by have := HK1.out; first | omega | exact Nat.le_refl _⟩, ⟨by (with_reducible repeat (first | refine blk_drewN ?_ _ | refine blk_drew ?_ | refine blk_alloc ?_ _)); exact BK151.out⟩, ⟨by (with_reducible repeat (first | refine blk_drewN ?_ _ | refine blk_drew ?_ | refine blk_alloc ?_ _)); exact BK152.out⟩, ⟨by (with_reducible repeat (first | refine blk_drewN ?_ _ | refine blk_drew ?_ | refine blk_alloc ?_ _)); exact BK153.out⟩, ⟨by (with_reducible repeat (first | refine blk_drewN ?_ _ | refine blk_drew ?_ | refine blk_alloc ?_ _)); exact BK158.out⟩, ⟨by (with_reducible repeat (first | refine blk_drewN ?_ _ | refine blk_drew ?_ | refine blk_alloc ?_ _)); exact BK162.out⟩, ⟨by (with_reducible repeat (first | refine blk_drewN ?_ _ | refine blk_drew ?_ | refine blk_alloc ?_ _)); exact BK166.out⟩, ⟨by repeat (first | (with_reducible first | exact HB.out | apply below_alloc | apply pw_below_drewN | apply below_drew1 | refine below_set ?_ GE151.out | refine below_set ?_ GE152.out | refine below_set ?_ GE153.out | refine below_set ?_ GE158.out | refine below_set ?_ GE162.out | refine below_set ?_ GE166.out) | exact HB.out)⟩⟩
        ·rw [if_neg c118] at H
         exact absurd H (by simp)
     case rest =>
      clear HC47
      try clear c1
      try clear c2
      try clear p2
      try clear c3
      try clear c4
      try clear c5
      try clear c5b0
      try clear c5b1
      try clear c6
      try clear p6
      try clear c7
      try clear c8
      try clear c9
      try clear c10
      try clear c11
      try clear c12
      try clear c13
      try clear c14
      try clear c15
      try clear c16
      try clear c23
      try clear c24
      try clear c25
      try clear c31
      try clear c32
      try clear c33
      try clear c34
      try clear c40
      try clear c41
      try clear c42
      try clear c43
      try clear c44
      try clear c46
      try clear c46b0
      try clear c48
      try clear c49
      try clear c49b0
      try clear c49b1
      try clear c50
      try clear c50b0
      try clear c50b1
      try clear c51
      try clear c52
      try clear c53
      try clear c54
      try clear c55
      try clear c57
      try clear c58
      try clear c59
      try clear c60
      try clear c62
      try clear c63
      try clear c64
      try clear p64
      try clear c66
      try clear c67
      try clear c68
      try clear c69
      try clear c70
      try clear c72
      try clear c73
      try clear c74
      try clear c75
      try clear c77
      try clear c78
      try clear c79
      try clear c80
      try clear c81
      try clear c83
      try clear c84
      try clear c84b0
      try clear c84b1
      try clear c85
      try clear c85b0
      try clear c85b1
      try clear c86
      try clear c87
      try clear c88
      try clear c89
      try clear c90
      try clear c92
      try clear c93
      try clear c94
      try clear c95
      try clear c97
      try clear c98
      try clear c99
      try clear c101
      try clear c102
      try clear c103
      try clear c104
      try clear c105
      try clear c107
      try clear c108
      try clear c109
      try clear c110
      try clear c112
      try clear c113
      try clear c114
      try clear c115
      try clear c116
      try clear c118
      try clear c119
      try clear c119b0
      try clear c119b1
      try clear c120
      try clear c120b0
      try clear c120b1
      try clear c121
      try clear c122
      try clear c123
      try clear c124
      try clear c125
      try clear c127
      try clear c128
      try clear c129
      try clear c130
      try clear c132
      try clear c133
      try clear c134
      try clear c136
      try clear c137
      try clear c138
      try clear c139
      try clear c140
      try clear c142
      try clear c143
      try clear c144
      try clear c145
      try clear c147
      try clear c148
      try clear c149
      try clear c150
      try clear c151
      try clear hcz100_0
      try clear hcz100_1
      try clear hcz100_2
      try clear hcz106_0
      try clear hcz106_1
      try clear hcz106_2
      try clear hcz111_0
      try clear hcz111_1
      try clear hcz111_2
      try clear hcz117_0
      try clear hcz117_1
      try clear hcz117_2
      try clear hcz126_0
      try clear hcz126_1
      try clear hcz126_2
      try clear hcz131_0
      try clear hcz131_1
      try clear hcz131_2
      try clear hcz135_0
      try clear hcz135_1
      try clear hcz135_2
      try clear hcz141_0
      try clear hcz141_1
      try clear hcz141_2
      try clear hcz146_0
      try clear hcz146_1
      try clear hcz146_2
      try clear hcz14_0
      try clear hcz14_1
      try clear hcz14_2
      try clear hcz14_3
      try clear hcz152_0
      try clear hcz152_1
      try clear hcz152_2
      try clear hcz16_0
      try clear hcz16_1
      try clear hcz16_2
      try clear hcz16_3
      try clear hcz17_0
      try clear hcz17_1
      try clear hcz17_2
      try clear hcz17_3
      try clear hcz19_0
      try clear hcz19_1
      try clear hcz19_2
      try clear hcz19_3
      try clear hcz20_0
      try clear hcz20_1
      try clear hcz20_2
      try clear hcz20_3
      try clear hcz26_0
      try clear hcz26_1
      try clear hcz26_2
      try clear hcz27_0
      try clear hcz27_1
      try clear hcz27_2
      try clear hcz27_3
      try clear hcz28_0
      try clear hcz28_1
      try clear hcz28_2
      try clear hcz28_3
      try clear hcz35_0
      try clear hcz35_1
      try clear hcz35_2
      try clear hcz36_0
      try clear hcz36_1
      try clear hcz36_2
      try clear hcz36_3
      try clear hcz37_0
      try clear hcz37_1
      try clear hcz37_2
      try clear hcz37_3
      try clear hcz45_0
      try clear hcz45_1
      try clear hcz45_2
      try clear hcz56_0
      try clear hcz56_1
      try clear hcz56_2
      try clear hcz61_0
      try clear hcz61_1
      try clear hcz61_2
      try clear hcz65_0
      try clear hcz65_1
      try clear hcz65_2
      try clear hcz71_0
      try clear hcz71_1
      try clear hcz71_2
      try clear hcz76_0
      try clear hcz76_1
      try clear hcz76_2
      try clear hcz82_0
      try clear hcz82_1
      try clear hcz82_2
      try clear hcz91_0
      try clear hcz91_1
      try clear hcz91_2
      try clear hcz96_0
      try clear hcz96_1
      try clear hcz96_2
      try clear hfz100_0
      try clear hfz100_1
      try clear hfz100_2
      try clear hfz106_0
      try clear hfz106_1
      try clear hfz106_2
      try clear hfz111_0
      try clear hfz111_1
      try clear hfz111_2
      try clear hfz117_0
      try clear hfz117_1
      try clear hfz117_2
      try clear hfz126_0
      try clear hfz126_1
      try clear hfz126_2
      try clear hfz131_0
      try clear hfz131_1
      try clear hfz131_2
      try clear hfz135_0
      try clear hfz135_1
      try clear hfz135_2
      try clear hfz141_0
      try clear hfz141_1
      try clear hfz141_2
      try clear hfz146_0
      try clear hfz146_1
      try clear hfz146_2
      try clear hfz14_0
      try clear hfz14_1
      try clear hfz14_2
      try clear hfz14_3
      try clear hfz152_0
      try clear hfz152_1
      try clear hfz152_2
      try clear hfz16_0
      try clear hfz16_1
      try clear hfz16_2
      try clear hfz16_3
      try clear hfz17_0
      try clear hfz17_1
      try clear hfz17_2
      try clear hfz17_3
      try clear hfz19_0
      try clear hfz19_1
      try clear hfz19_2
      try clear hfz19_3
      try clear hfz20_0
      try clear hfz20_1
      try clear hfz20_2
      try clear hfz20_3
      try clear hfz26_0
      try clear hfz26_1
      try clear hfz26_2
      try clear hfz27_0
      try clear hfz27_1
      try clear hfz27_2
      try clear hfz27_3
      try clear hfz28_0
      try clear hfz28_1
      try clear hfz28_2
      try clear hfz28_3
      try clear hfz35_0
      try clear hfz35_1
      try clear hfz35_2
      try clear hfz36_0
      try clear hfz36_1
      try clear hfz36_2
      try clear hfz36_3
      try clear hfz37_0
      try clear hfz37_1
      try clear hfz37_2
      try clear hfz37_3
      try clear hfz45_0
      try clear hfz45_1
      try clear hfz45_2
      try clear hfz56_0
      try clear hfz56_1
      try clear hfz56_2
      try clear hfz61_0
      try clear hfz61_1
      try clear hfz61_2
      try clear hfz65_0
      try clear hfz65_1
      try clear hfz65_2
      try clear hfz71_0
      try clear hfz71_1
      try clear hfz71_2
      try clear hfz76_0
      try clear hfz76_1
      try clear hfz76_2
      try clear hfz82_0
      try clear hfz82_1
      try clear hfz82_2
      try clear hfz91_0
      try clear hfz91_1
      try clear hfz91_2
      try clear hfz96_0
      try clear hfz96_1
      try clear hfz96_2
      try clear p2
      try clear p6
      obtain ⟨kq, x44_46, rfl, HA, HJ46, BK151, BK152, BK153, BK158, BK162, BK166, HB⟩ := hcut
      cases kq with
      | zero => exact absurd HA.out (by simp [spec_l6Clash3.j1])
      | succ kj46 =>
       have H := HA.out
       clear HA
       simp only [spec_l6Clash3.j1] at H
       by_cases c153 : x44_46 = true
       ·subst c153
        have H1 : (if x10_1 = 0 then ((spec_l6Sum.f kj46 (([t155, t159, t163] : List Int)) (([a0_3, a1_3, a2_3] : List Int))).bind fun t173 => (some t173)) else (if x10_1 = 1 then ((spec_l6Sum.f kj46 (([t156, t160, t164] : List Int)) (([a0_3, a1_3, a2_3] : List Int))).bind fun t180 => (some t180)) else (if x10_1 = 2 then ((spec_l6Sum.f kj46 (([t157, t161, t165] : List Int)) (([a0_3, a1_3, a2_3] : List Int))).bind fun t187 => (some t187)) else (none)))) = some r := by rw [if_pos rfl] at H; exact H
        clear H
        have H := H1
        clear H1
        by_cases c154 : x10_1 = 0
        ·subst c154
         have H1 : ((spec_l6Sum.f kj46 (([t155, t159, t163] : List Int)) (([a0_3, a1_3, a2_3] : List Int))).bind fun t173 => (some t173)) = some r := by rw [if_pos rfl] at H; exact H
         clear H
         have H := H1
         clear H1
         obtain ⟨y167, hy167⟩ : ∃ y_ : List Int, y_ = (([t155, t159, t163] : List Int)) := ⟨_, rfl⟩
         replace H : ((spec_l6Sum.f kj46 y167 (([a0_3, a1_3, a2_3] : List Int))).bind fun t173 => (some t173)) = some r := by first | (rw [hy167]; with_reducible exact H) | (have H2_ := (Option.bind_some _ _).symm.trans H; rw [hy167]; with_reducible exact H2_) | (have H2_ := (Option.bind_some _ _).symm.trans H; with_reducible exact H2_) | with_reducible exact H | (rw [hy167]; exact H) | exact H
         have Ny167 := Aside0.mk hy167
         clear hy167
         obtain ⟨y170, hy170⟩ : ∃ y_ : List Int, y_ = (([a0_3, a1_3, a2_3] : List Int)) := ⟨_, rfl⟩
         replace H : ((spec_l6Sum.f kj46 y167 y170).bind fun t173 => (some t173)) = some r := by first | (rw [hy170]; with_reducible exact H) | (have H2_ := (Option.bind_some _ _).symm.trans H; rw [hy170]; with_reducible exact H2_) | (have H2_ := (Option.bind_some _ _).symm.trans H; with_reducible exact H2_) | with_reducible exact H | (rw [hy170]; exact H) | exact H
         have Ny170 := Aside0.mk hy170
         clear hy170
         obtain ⟨t173, A155, H⟩ := bi H
         obtain rfl := Option.some.inj H
         try go_wp2
         have n0_ := Aside0.mk (blk_drew BK151.out)
         have n1_ := Aside0.mk (blk_drew BK152.out)
         have n2_ := Aside0.mk (blk_drew BK153.out)
         have n3_ := Aside0.mk (blk_drew BK158.out)
         have n4_ := Aside0.mk (blk_drew BK162.out)
         have n5_ := Aside0.mk (blk_drew BK166.out)
         have n6_ := Aside0.mk (below_drew1 HB.out)
         clear BK151
         clear BK152
         clear BK153
         clear BK158
         clear BK162
         clear BK166
         clear HB
         have BK151 := n0_
         have BK152 := n1_
         have BK153 := n2_
         have BK158 := n3_
         have BK162 := n4_
         have BK166 := n5_
         have HB := n6_
         clear n0_ n1_ n2_ n3_ n4_ n5_ n6_
         refine start_ (n := 19) (S := fun w' => w'.cell? ⟨gb158, 0, none⟩ = some (.int .i64 t155) ∧ w'.cell? ⟨gb158, 1, none⟩ = some (.int .i64 t156) ∧ w'.cell? ⟨gb158, 2, none⟩ = some (.int .i64 t157) ∧ w'.cell? ⟨gb162, 0, none⟩ = some (.int .i64 t159) ∧ w'.cell? ⟨gb162, 1, none⟩ = some (.int .i64 t160) ∧ w'.cell? ⟨gb162, 2, none⟩ = some (.int .i64 t161) ∧ w'.cell? ⟨gb166, 0, none⟩ = some (.int .i64 t163) ∧ w'.cell? ⟨gb166, 1, none⟩ = some (.int .i64 t164) ∧ w'.cell? ⟨gb166, 2, none⟩ = some (.int .i64 t165) ∧ w'.cell? ⟨gb151, 0, none⟩ = some (.int .i64 a0_0) ∧ w'.cell? ⟨gb151, 1, none⟩ = some (.int .i64 a0_1) ∧ w'.cell? ⟨gb151, 2, none⟩ = some (.int .i64 a0_2) ∧ w'.cell? ⟨gb151, 3, none⟩ = some (.int .i64 a0_3) ∧ w'.cell? ⟨gb152, 0, none⟩ = some (.int .i64 a1_0) ∧ w'.cell? ⟨gb152, 1, none⟩ = some (.int .i64 a1_1) ∧ w'.cell? ⟨gb152, 2, none⟩ = some (.int .i64 a1_2) ∧ w'.cell? ⟨gb152, 3, none⟩ = some (.int .i64 a1_3) ∧ w'.cell? ⟨gb153, 0, none⟩ = some (.int .i64 a2_0) ∧ w'.cell? ⟨gb153, 1, none⟩ = some (.int .i64 a2_1) ∧ w'.cell? ⟨gb153, 2, none⟩ = some (.int .i64 a2_2) ∧ w'.cell? ⟨gb153, 3, none⟩ = some (.int .i64 a2_3)) (ds := []) (bl 19 0) (by kernel_rfl) rfl rfl ⟨(blk_cell BK158.out 0).trans rfl, (blk_cell BK158.out 1).trans rfl, (blk_cell BK158.out 2).trans rfl, (blk_cell BK162.out 0).trans rfl, (blk_cell BK162.out 1).trans rfl, (blk_cell BK162.out 2).trans rfl, (blk_cell BK166.out 0).trans rfl, (blk_cell BK166.out 1).trans rfl, (blk_cell BK166.out 2).trans rfl, (blk_cell BK151.out 0).trans rfl, (blk_cell BK151.out 1).trans rfl, (blk_cell BK151.out 2).trans rfl, (blk_cell BK151.out 3).trans rfl, (blk_cell BK152.out 0).trans rfl, (blk_cell BK152.out 1).trans rfl, (blk_cell BK152.out 2).trans rfl, (blk_cell BK152.out 3).trans rfl, (blk_cell BK153.out 0).trans rfl, (blk_cell BK153.out 1).trans rfl, (blk_cell BK153.out 2).trans rfl, (blk_cell BK153.out 3).trans rfl⟩ (fun hHeld => ?_); refine with_tabW spec_l6Clash3.tab10 spec_l6Clash3.bits10 (fun HT_ HW_ => ?_)
         generalize wc.drew = w156 at BK151 BK152 BK153 BK158 BK162 BK166 HB hHeld ⊢
         refine pS 0 45 1 ?_
         refine pS 1 46 3 ?_
         refine pS 3 48 11 ?_
         refine pS 4 49 27 ?_
         refine pS 6 51 91 ?_
         refine pS 7 52 219 ?_
         refine pS 10 55 1243 ?_
         refine pS 12 57 5339 ?_
         refine pS 14 59 21723 ?_
         refine tS 2 47 21727 ?_
         refine tS 5 50 21759 ?_
         refine tS 8 53 22015 ?_
         refine tS 11 56 24063 ?_
         refine tS 13 58 32255 ?_
         refine tS 15 60 65023 ?_
         refine join_ (σ := Value × Value) 2 (bl 19 131071) (fun s_ => [(54, s_.1), (61, s_.2)]) (fun s_ w' => (w'.cell? ⟨gb158, 0, none⟩ = some (.int .i64 t155) ∧ w'.cell? ⟨gb158, 1, none⟩ = some (.int .i64 t156) ∧ w'.cell? ⟨gb158, 2, none⟩ = some (.int .i64 t157) ∧ w'.cell? ⟨gb162, 0, none⟩ = some (.int .i64 t159) ∧ w'.cell? ⟨gb162, 1, none⟩ = some (.int .i64 t160) ∧ w'.cell? ⟨gb162, 2, none⟩ = some (.int .i64 t161) ∧ w'.cell? ⟨gb166, 0, none⟩ = some (.int .i64 t163) ∧ w'.cell? ⟨gb166, 1, none⟩ = some (.int .i64 t164) ∧ w'.cell? ⟨gb166, 2, none⟩ = some (.int .i64 t165) ∧ w'.cell? ⟨gb151, 0, none⟩ = some (.int .i64 a0_0) ∧ w'.cell? ⟨gb151, 1, none⟩ = some (.int .i64 a0_1) ∧ w'.cell? ⟨gb151, 2, none⟩ = some (.int .i64 a0_2) ∧ w'.cell? ⟨gb151, 3, none⟩ = some (.int .i64 a0_3) ∧ w'.cell? ⟨gb152, 0, none⟩ = some (.int .i64 a1_0) ∧ w'.cell? ⟨gb152, 1, none⟩ = some (.int .i64 a1_1) ∧ w'.cell? ⟨gb152, 2, none⟩ = some (.int .i64 a1_2) ∧ w'.cell? ⟨gb152, 3, none⟩ = some (.int .i64 a1_3) ∧ w'.cell? ⟨gb153, 0, none⟩ = some (.int .i64 a2_0) ∧ w'.cell? ⟨gb153, 1, none⟩ = some (.int .i64 a2_1) ∧ w'.cell? ⟨gb153, 2, none⟩ = some (.int .i64 a2_2) ∧ w'.cell? ⟨gb153, 3, none⟩ = some (.int .i64 a2_3)) ∧ (Kd.R (Kd.int .i64) 3 w' w.heap.size (fun k_ => some k_ ≠ (s_.2 : Value).ownBlock) s_.1 y167) ∧ (Kd.R (Kd.int .i64) 3 w' w.heap.size (fun k_ => some k_ ≠ (s_.1 : Value).ownBlock) s_.2 y170) ∧ (w'.heap[gb151]? = some (.cells #[.int .i64 a0_0, .int .i64 a0_1, .int .i64 a0_2, .int .i64 a0_3] 23 (0, 0))) ∧ (w'.heap[gb152]? = some (.cells #[.int .i64 a1_0, .int .i64 a1_1, .int .i64 a1_2, .int .i64 a1_3] 23 (0, 0))) ∧ (w'.heap[gb153]? = some (.cells #[.int .i64 a2_0, .int .i64 a2_1, .int .i64 a2_2, .int .i64 a2_3] 23 (0, 0))) ∧ (w'.heap[gb158]? = some (.cells #[.int .i64 t155, .int .i64 t156, .int .i64 t157] 128 (0, 0))) ∧ (w'.heap[gb162]? = some (.cells #[.int .i64 t159, .int .i64 t160, .int .i64 t161] 128 (0, 0))) ∧ (w'.heap[gb166]? = some (.cells #[.int .i64 t163, .int .i64 t164, .int .i64 t165] 128 (0, 0))) ∧ (Below w.heap.size w w')) ?_ ?_
         rotate_left
         ·intro hCont
          refine two_ (i := 9) (j := 16) (Ni := some 54) (Nj := some 61) (bl 19 65535) (bl 19 130559) rfl rfl rfl rfl (two_of HT_.out (by kernel_rfl)) (by decide) (by decide) (fun K hK => ?_) (fun K hK => ?_)
          ·skip
           refine Kd.R_lit_step (Kd.int .i64) _ 3 ?hg (N := 54) ?hd (xs := ([t155, t159, t163] : List Int)) (inner := [.int .i64 t155, .int .i64 t159, .int .i64 t163]) (ok := fun _ => True) (okp := fun _ => True) ?hr ?hp (fun _ hk => hk) trivial (Below.refl _ _) (Nat.le_refl _) (by simp) ?_; (case hd => rfl); (case hg => rfl); (case hr => first | (go_simp; done) | (go_simp; rfl)); (case hp => exact (Reps.one (show Kd.M (Kd.int .i64) _ _ _ t155 [.int .i64 t155] from rfl) (Reps.one (show Kd.M (Kd.int .i64) _ _ _ t159 [.int .i64 t159] from rfl) (Reps.one (show Kd.M (Kd.int .i64) _ _ _ t163 [.int .i64 t163] from rfl) (Reps.none _ _)))))
           intro v168 w157 ho158 hb hg_ hnew_
           clear hg_ hnew_
           (first | rw [← Ny167.out] at ho158 | (simp only [Int.reduceToNat] at ho158; rw [← Ny167.out] at ho158))
           have n0_ := Aside0.mk (Kd.R_lower ho158 (below_size (hbx HB)))
           have n1_ := kb BK151 hb
           have n2_ := kb BK152 hb
           have n3_ := kb BK153 hb
           have n4_ := kb BK158 hb
           have n5_ := kb BK162 hb
           have n6_ := kb BK166 hb
           have n7_ := bt HB hb
           clear BK151
           clear BK152
           clear BK153
           clear BK158
           clear BK162
           clear BK166
           clear HB
           have HO169 := n0_
           have BK151 := n1_
           have BK152 := n2_
           have BK153 := n3_
           have BK158 := n4_
           have BK162 := n5_
           have BK166 := n6_
           have HB := n7_
           clear n0_ n1_ n2_ n3_ n4_ n5_ n6_ n7_
           clear hb ho158
           refine ko hK (fun hHeld => ?_)
           clear hK K
           refine nm 54 ?_
           refine oS 16 61 131071 (fun K hK => ?_)
           refine Kd.R_lit_step (Kd.int .i64) _ 3 ?hg (N := 61) ?hd (xs := ([a0_3, a1_3, a2_3] : List Int)) (inner := [.int .i64 a0_3, .int .i64 a1_3, .int .i64 a2_3]) (ok := fun _ => True) (okp := fun _ => True) ?hr ?hp (fun _ hk => hk) trivial (Below.refl _ _) (Nat.le_refl _) (by simp) ?_; (case hd => rfl); (case hg => rfl); (case hr => first | (go_simp; done) | (go_simp; rfl)); (case hp => exact (Reps.one (show Kd.M (Kd.int .i64) _ _ _ a0_3 [.int .i64 a0_3] from rfl) (Reps.one (show Kd.M (Kd.int .i64) _ _ _ a1_3 [.int .i64 a1_3] from rfl) (Reps.one (show Kd.M (Kd.int .i64) _ _ _ a2_3 [.int .i64 a2_3] from rfl) (Reps.none _ _)))))
           intro v171 w159 ho160 hb hg_ hnew_
           clear hg_ hnew_
           (first | rw [← Ny170.out] at ho160 | (simp only [Int.reduceToNat] at ho160; rw [← Ny170.out] at ho160))
           have n0_ := Aside0.mk (Kd.R_elder' (by (with_reducible repeat (first | apply Kd.R_alloc | apply Kd.R_drewN | apply Kd.R_drew)); exact HO169.out) (Kd.R_base ho160) hb)
           have n1_ := Aside0.mk (Kd.R_lower (Kd.R_new' ho160 (Kd.R_lt (by (with_reducible repeat (first | apply Kd.R_alloc | apply Kd.R_drewN | apply Kd.R_drew)); exact HO169.out))) (below_size (hbx HB)))
           have n2_ := kb BK151 hb
           have n3_ := kb BK152 hb
           have n4_ := kb BK153 hb
           have n5_ := kb BK158 hb
           have n6_ := kb BK162 hb
           have n7_ := kb BK166 hb
           have n8_ := bt HB hb
           clear HO169
           clear BK151
           clear BK152
           clear BK153
           clear BK158
           clear BK162
           clear BK166
           clear HB
           have HO169 := n0_
           have HO172 := n1_
           have BK151 := n2_
           have BK152 := n3_
           have BK153 := n4_
           have BK158 := n5_
           have BK162 := n6_
           have BK166 := n7_
           have HB := n8_
           clear n0_ n1_ n2_ n3_ n4_ n5_ n6_ n7_ n8_
           clear hb ho160
           refine ko hK (fun hHeld => ?_)
           clear hK K
           refine nm 61 ?_
           exact norm_ (by simp only [putAll, Act.put, List.setIfInBounds_toArray, List.set_cons_zero, List.set_cons_succ]) (hCont (v168, v171) _ ⟨hHeld, (by (with_reducible repeat (first | apply Kd.R_alloc | apply Kd.R_drewN | apply Kd.R_drew)); exact Kd.R_mono HO169.out (fun _ hk => hk.2)), (by (with_reducible repeat (first | apply Kd.R_alloc | apply Kd.R_drewN | apply Kd.R_drew)); exact Kd.R_mono HO172.out (fun _ hk => hk.2)), (kbx BK151), (kbx BK152), (kbx BK153), (kbx BK158), (kbx BK162), (kbx BK166), (hbx HB)⟩)
          ·skip
           refine Kd.R_lit_step (Kd.int .i64) _ 3 ?hg (N := 61) ?hd (xs := ([a0_3, a1_3, a2_3] : List Int)) (inner := [.int .i64 a0_3, .int .i64 a1_3, .int .i64 a2_3]) (ok := fun _ => True) (okp := fun _ => True) ?hr ?hp (fun _ hk => hk) trivial (Below.refl _ _) (Nat.le_refl _) (by simp) ?_; (case hd => rfl); (case hg => rfl); (case hr => first | (go_simp; done) | (go_simp; rfl)); (case hp => exact (Reps.one (show Kd.M (Kd.int .i64) _ _ _ a0_3 [.int .i64 a0_3] from rfl) (Reps.one (show Kd.M (Kd.int .i64) _ _ _ a1_3 [.int .i64 a1_3] from rfl) (Reps.one (show Kd.M (Kd.int .i64) _ _ _ a2_3 [.int .i64 a2_3] from rfl) (Reps.none _ _)))))
           intro v171 w157 ho158 hb hg_ hnew_
           clear hg_ hnew_
           (first | rw [← Ny170.out] at ho158 | (simp only [Int.reduceToNat] at ho158; rw [← Ny170.out] at ho158))
           have n0_ := Aside0.mk (Kd.R_lower ho158 (below_size (hbx HB)))
           have n1_ := kb BK151 hb
           have n2_ := kb BK152 hb
           have n3_ := kb BK153 hb
           have n4_ := kb BK158 hb
           have n5_ := kb BK162 hb
           have n6_ := kb BK166 hb
           have n7_ := bt HB hb
           clear BK151
           clear BK152
           clear BK153
           clear BK158
           clear BK162
           clear BK166
           clear HB
           have HO172 := n0_
           have BK151 := n1_
           have BK152 := n2_
           have BK153 := n3_
           have BK158 := n4_
           have BK162 := n5_
           have BK166 := n6_
           have HB := n7_
           clear n0_ n1_ n2_ n3_ n4_ n5_ n6_ n7_
           clear hb ho158
           refine ko hK (fun hHeld => ?_)
           clear hK K
           refine nm 61 ?_
           refine oS 9 54 131071 (fun K hK => ?_)
           refine Kd.R_lit_step (Kd.int .i64) _ 3 ?hg (N := 54) ?hd (xs := ([t155, t159, t163] : List Int)) (inner := [.int .i64 t155, .int .i64 t159, .int .i64 t163]) (ok := fun _ => True) (okp := fun _ => True) ?hr ?hp (fun _ hk => hk) trivial (Below.refl _ _) (Nat.le_refl _) (by simp) ?_; (case hd => rfl); (case hg => rfl); (case hr => first | (go_simp; done) | (go_simp; rfl)); (case hp => exact (Reps.one (show Kd.M (Kd.int .i64) _ _ _ t155 [.int .i64 t155] from rfl) (Reps.one (show Kd.M (Kd.int .i64) _ _ _ t159 [.int .i64 t159] from rfl) (Reps.one (show Kd.M (Kd.int .i64) _ _ _ t163 [.int .i64 t163] from rfl) (Reps.none _ _)))))
           intro v168 w159 ho160 hb hg_ hnew_
           clear hg_ hnew_
           (first | rw [← Ny167.out] at ho160 | (simp only [Int.reduceToNat] at ho160; rw [← Ny167.out] at ho160))
           have n0_ := Aside0.mk (Kd.R_elder' (by (with_reducible repeat (first | apply Kd.R_alloc | apply Kd.R_drewN | apply Kd.R_drew)); exact HO172.out) (Kd.R_base ho160) hb)
           have n1_ := Aside0.mk (Kd.R_lower (Kd.R_new' ho160 (Kd.R_lt (by (with_reducible repeat (first | apply Kd.R_alloc | apply Kd.R_drewN | apply Kd.R_drew)); exact HO172.out))) (below_size (hbx HB)))
           have n2_ := kb BK151 hb
           have n3_ := kb BK152 hb
           have n4_ := kb BK153 hb
           have n5_ := kb BK158 hb
           have n6_ := kb BK162 hb
           have n7_ := kb BK166 hb
           have n8_ := bt HB hb
           clear HO172
           clear BK151
           clear BK152
           clear BK153
           clear BK158
           clear BK162
           clear BK166
           clear HB
           have HO172 := n0_
           have HO169 := n1_
           have BK151 := n2_
           have BK152 := n3_
           have BK153 := n4_
           have BK158 := n5_
           have BK162 := n6_
           have BK166 := n7_
           have HB := n8_
           clear n0_ n1_ n2_ n3_ n4_ n5_ n6_ n7_ n8_
           clear hb ho160
           refine ko hK (fun hHeld => ?_)
           clear hK K
           refine nm 54 ?_
           exact norm_ (by simp only [putAll, Act.put, List.setIfInBounds_toArray, List.set_cons_zero, List.set_cons_succ]) (hCont (v168, v171) _ ⟨hHeld, (by (with_reducible repeat (first | apply Kd.R_alloc | apply Kd.R_drewN | apply Kd.R_drew)); exact Kd.R_mono HO169.out (fun _ hk => hk.2)), (by (with_reducible repeat (first | apply Kd.R_alloc | apply Kd.R_drewN | apply Kd.R_drew)); exact Kd.R_mono HO172.out (fun _ hk => hk.2)), (kbx BK151), (kbx BK152), (kbx BK153), (kbx BK158), (kbx BK162), (kbx BK166), (hbx HB)⟩)
         rintro ⟨v168, v171⟩ w161 ⟨hS_, h0_, h1_, h2_, h3_, h4_, h5_, h6_, h7_, h8_⟩
         have n0_ : Aside0 (Kd.R (Kd.int .i64) 3 w161 w.heap.size (fun k_ => some k_ ≠ (v171 : Value).ownBlock) v168 y167) := ⟨h0_⟩
         have n1_ : Aside0 (Kd.R (Kd.int .i64) 3 w161 w.heap.size (fun k_ => some k_ ≠ (v168 : Value).ownBlock) v171 y170) := ⟨h1_⟩
         have n2_ : Aside0 (w161.heap[gb151]? = some (.cells #[.int .i64 a0_0, .int .i64 a0_1, .int .i64 a0_2, .int .i64 a0_3] 23 (0, 0))) := ⟨h2_⟩
         have n3_ : Aside0 (w161.heap[gb152]? = some (.cells #[.int .i64 a1_0, .int .i64 a1_1, .int .i64 a1_2, .int .i64 a1_3] 23 (0, 0))) := ⟨h3_⟩
         have n4_ : Aside0 (w161.heap[gb153]? = some (.cells #[.int .i64 a2_0, .int .i64 a2_1, .int .i64 a2_2, .int .i64 a2_3] 23 (0, 0))) := ⟨h4_⟩
         have n5_ : Aside0 (w161.heap[gb158]? = some (.cells #[.int .i64 t155, .int .i64 t156, .int .i64 t157] 128 (0, 0))) := ⟨h5_⟩
         have n6_ : Aside0 (w161.heap[gb162]? = some (.cells #[.int .i64 t159, .int .i64 t160, .int .i64 t161] 128 (0, 0))) := ⟨h6_⟩
         have n7_ : Aside0 (w161.heap[gb166]? = some (.cells #[.int .i64 t163, .int .i64 t164, .int .i64 t165] 128 (0, 0))) := ⟨h7_⟩
         have n8_ : Aside0 (Below w.heap.size w w161) := ⟨h8_⟩
         clear BK151
         clear BK152
         clear BK153
         clear BK158
         clear BK162
         clear BK166
         clear HB
         clear h0_ h1_ h2_ h3_ h4_ h5_ h6_ h7_ h8_
         have HO169 := n0_
         have HO172 := n1_
         have BK151 := n2_
         have BK152 := n3_
         have BK153 := n4_
         have BK158 := n5_
         have BK162 := n6_
         have BK166 := n7_
         have HB := n8_
         clear n0_ n1_ n2_ n3_ n4_ n5_ n6_ n7_ n8_
         have hHeld : w161.cell? ⟨gb158, 0, none⟩ = some (.int .i64 t155) ∧ w161.cell? ⟨gb158, 1, none⟩ = some (.int .i64 t156) ∧ w161.cell? ⟨gb158, 2, none⟩ = some (.int .i64 t157) ∧ w161.cell? ⟨gb162, 0, none⟩ = some (.int .i64 t159) ∧ w161.cell? ⟨gb162, 1, none⟩ = some (.int .i64 t160) ∧ w161.cell? ⟨gb162, 2, none⟩ = some (.int .i64 t161) ∧ w161.cell? ⟨gb166, 0, none⟩ = some (.int .i64 t163) ∧ w161.cell? ⟨gb166, 1, none⟩ = some (.int .i64 t164) ∧ w161.cell? ⟨gb166, 2, none⟩ = some (.int .i64 t165) ∧ w161.cell? ⟨gb151, 0, none⟩ = some (.int .i64 a0_0) ∧ w161.cell? ⟨gb151, 1, none⟩ = some (.int .i64 a0_1) ∧ w161.cell? ⟨gb151, 2, none⟩ = some (.int .i64 a0_2) ∧ w161.cell? ⟨gb151, 3, none⟩ = some (.int .i64 a0_3) ∧ w161.cell? ⟨gb152, 0, none⟩ = some (.int .i64 a1_0) ∧ w161.cell? ⟨gb152, 1, none⟩ = some (.int .i64 a1_1) ∧ w161.cell? ⟨gb152, 2, none⟩ = some (.int .i64 a1_2) ∧ w161.cell? ⟨gb152, 3, none⟩ = some (.int .i64 a1_3) ∧ w161.cell? ⟨gb153, 0, none⟩ = some (.int .i64 a2_0) ∧ w161.cell? ⟨gb153, 1, none⟩ = some (.int .i64 a2_1) ∧ w161.cell? ⟨gb153, 2, none⟩ = some (.int .i64 a2_2) ∧ w161.cell? ⟨gb153, 3, none⟩ = some (.int .i64 a2_3) := hS_
         obtain ⟨Ao162, co162, eo162⟩ := Kd.R_slice HO169.out
         (first | subst eo162 | (injection eo162 with f1_ f2_ f3_; have f4_ := f1_.symm; have f5_ := f3_.symm; clear f1_ f2_ f3_; subst f4_; subst f5_))
         obtain ⟨Ao163, co163, eo163⟩ := Kd.R_slice HO172.out
         (first | subst eo163 | (injection eo163 with f1_ f2_ f3_; have f4_ := f1_.symm; have f5_ := f3_.symm; clear f1_ f2_ f3_; subst f4_; subst f5_))
         refine norm_ (a' := ?_) ?_ ?_
         rotate_left
         ·simp only [putAll, Act.put, List.setIfInBounds_toArray, List.set_cons_zero, List.set_cons_succ]
          rfl
         refine oS 17 62 262143 (fun K hK => ?_)
         refine gO Try.func176 #[.slice Ao162 y167.length co162, .slice Ao163 y170.length co163] ?_
         with_reducible refine (spec_l6Sum.calls kj46 _ _ y167 _ _ y170 t173 _ ?side1 ?side2 ?side3 ?side4 A155.out).mono ?_
         (case side1 => repeat (first | exact (Kd.R_reads' HO169.out).2.2 | (with_reducible refine Kd.C_alloc ?_ _) | (with_reducible refine Kd.C_drewN ?_ _) | (with_reducible refine Kd.C_drew ?_)))
         (case side2 => exact (Kd.R_reads' HO169.out).2.1)
         (case side3 => repeat (first | exact (Kd.R_reads' HO172.out).2.2 | (with_reducible refine Kd.C_alloc ?_ _) | (with_reducible refine Kd.C_drewN ?_ _) | (with_reducible refine Kd.C_drew ?_)))
         (case side4 => exact (Kd.R_reads' HO172.out).2.1)
         rintro e w' ⟨rfl, ⟨nd, rfl⟩⟩
         refine ⟨_, rfl, ?_⟩
         refine ko hK (fun hHeld => ?_)
         clear hK K
         refine nm 62 ?_
         refine pS 18 6 524287 ?_
         refine done_ (done_of HT_.out (by kernel_rfl)) ?_
         try go_wp2
         go_ret
         exact fin HB
        ·rw [if_neg c154] at H
         by_cases c164 : x10_1 = 1
         ·subst c164
          have H1 : ((spec_l6Sum.f kj46 (([t156, t160, t164] : List Int)) (([a0_3, a1_3, a2_3] : List Int))).bind fun t180 => (some t180)) = some r := by rw [if_pos rfl] at H; exact H
          clear H
          have H := H1
          clear H1
          obtain ⟨y174, hy174⟩ : ∃ y_ : List Int, y_ = (([t156, t160, t164] : List Int)) := ⟨_, rfl⟩
          replace H : ((spec_l6Sum.f kj46 y174 (([a0_3, a1_3, a2_3] : List Int))).bind fun t180 => (some t180)) = some r := by first | (rw [hy174]; with_reducible exact H) | (have H2_ := (Option.bind_some _ _).symm.trans H; rw [hy174]; with_reducible exact H2_) | (have H2_ := (Option.bind_some _ _).symm.trans H; with_reducible exact H2_) | with_reducible exact H | (rw [hy174]; exact H) | exact H
          have Ny174 := Aside0.mk hy174
          clear hy174
          obtain ⟨y177, hy177⟩ : ∃ y_ : List Int, y_ = (([a0_3, a1_3, a2_3] : List Int)) := ⟨_, rfl⟩
          replace H : ((spec_l6Sum.f kj46 y174 y177).bind fun t180 => (some t180)) = some r := by first | (rw [hy177]; with_reducible exact H) | (have H2_ := (Option.bind_some _ _).symm.trans H; rw [hy177]; with_reducible exact H2_) | (have H2_ := (Option.bind_some _ _).symm.trans H; with_reducible exact H2_) | with_reducible exact H | (rw [hy177]; exact H) | exact H
          have Ny177 := Aside0.mk hy177
          clear hy177
          obtain ⟨t180, A165, H⟩ := bi H
          obtain rfl := Option.some.inj H
          try go_wp2
          have n0_ := Aside0.mk (blk_drew BK151.out)
          have n1_ := Aside0.mk (blk_drew BK152.out)
          have n2_ := Aside0.mk (blk_drew BK153.out)
          have n3_ := Aside0.mk (blk_drew BK158.out)
          have n4_ := Aside0.mk (blk_drew BK162.out)
          have n5_ := Aside0.mk (blk_drew BK166.out)
          have n6_ := Aside0.mk (below_drew1 HB.out)
          clear BK151
          clear BK152
          clear BK153
          clear BK158
          clear BK162
          clear BK166
          clear HB
          have BK151 := n0_
          have BK152 := n1_
          have BK153 := n2_
          have BK158 := n3_
          have BK162 := n4_
          have BK166 := n5_
          have HB := n6_
          clear n0_ n1_ n2_ n3_ n4_ n5_ n6_
          refine start_ (n := 19) (S := fun w' => w'.cell? ⟨gb158, 0, none⟩ = some (.int .i64 t155) ∧ w'.cell? ⟨gb158, 1, none⟩ = some (.int .i64 t156) ∧ w'.cell? ⟨gb158, 2, none⟩ = some (.int .i64 t157) ∧ w'.cell? ⟨gb162, 0, none⟩ = some (.int .i64 t159) ∧ w'.cell? ⟨gb162, 1, none⟩ = some (.int .i64 t160) ∧ w'.cell? ⟨gb162, 2, none⟩ = some (.int .i64 t161) ∧ w'.cell? ⟨gb166, 0, none⟩ = some (.int .i64 t163) ∧ w'.cell? ⟨gb166, 1, none⟩ = some (.int .i64 t164) ∧ w'.cell? ⟨gb166, 2, none⟩ = some (.int .i64 t165) ∧ w'.cell? ⟨gb151, 0, none⟩ = some (.int .i64 a0_0) ∧ w'.cell? ⟨gb151, 1, none⟩ = some (.int .i64 a0_1) ∧ w'.cell? ⟨gb151, 2, none⟩ = some (.int .i64 a0_2) ∧ w'.cell? ⟨gb151, 3, none⟩ = some (.int .i64 a0_3) ∧ w'.cell? ⟨gb152, 0, none⟩ = some (.int .i64 a1_0) ∧ w'.cell? ⟨gb152, 1, none⟩ = some (.int .i64 a1_1) ∧ w'.cell? ⟨gb152, 2, none⟩ = some (.int .i64 a1_2) ∧ w'.cell? ⟨gb152, 3, none⟩ = some (.int .i64 a1_3) ∧ w'.cell? ⟨gb153, 0, none⟩ = some (.int .i64 a2_0) ∧ w'.cell? ⟨gb153, 1, none⟩ = some (.int .i64 a2_1) ∧ w'.cell? ⟨gb153, 2, none⟩ = some (.int .i64 a2_2) ∧ w'.cell? ⟨gb153, 3, none⟩ = some (.int .i64 a2_3)) (ds := []) (bl 19 0) (by kernel_rfl) rfl rfl ⟨(blk_cell BK158.out 0).trans rfl, (blk_cell BK158.out 1).trans rfl, (blk_cell BK158.out 2).trans rfl, (blk_cell BK162.out 0).trans rfl, (blk_cell BK162.out 1).trans rfl, (blk_cell BK162.out 2).trans rfl, (blk_cell BK166.out 0).trans rfl, (blk_cell BK166.out 1).trans rfl, (blk_cell BK166.out 2).trans rfl, (blk_cell BK151.out 0).trans rfl, (blk_cell BK151.out 1).trans rfl, (blk_cell BK151.out 2).trans rfl, (blk_cell BK151.out 3).trans rfl, (blk_cell BK152.out 0).trans rfl, (blk_cell BK152.out 1).trans rfl, (blk_cell BK152.out 2).trans rfl, (blk_cell BK152.out 3).trans rfl, (blk_cell BK153.out 0).trans rfl, (blk_cell BK153.out 1).trans rfl, (blk_cell BK153.out 2).trans rfl, (blk_cell BK153.out 3).trans rfl⟩ (fun hHeld => ?_); refine with_tabW spec_l6Clash3.tab10 spec_l6Clash3.bits10 (fun HT_ HW_ => ?_)
          generalize wc.drew = w166 at BK151 BK152 BK153 BK158 BK162 BK166 HB hHeld ⊢
          refine pS 0 45 1 ?_
          refine pS 1 46 3 ?_
          refine pS 3 48 11 ?_
          refine pS 4 49 27 ?_
          refine pS 6 51 91 ?_
          refine pS 7 52 219 ?_
          refine pS 10 55 1243 ?_
          refine pS 12 57 5339 ?_
          refine pS 14 59 21723 ?_
          refine tS 2 47 21727 ?_
          refine tS 5 50 21759 ?_
          refine tS 8 53 22015 ?_
          refine tS 11 56 24063 ?_
          refine tS 13 58 32255 ?_
          refine tS 15 60 65023 ?_
          refine join_ (σ := Value × Value) 2 (bl 19 131071) (fun s_ => [(54, s_.1), (61, s_.2)]) (fun s_ w' => (w'.cell? ⟨gb158, 0, none⟩ = some (.int .i64 t155) ∧ w'.cell? ⟨gb158, 1, none⟩ = some (.int .i64 t156) ∧ w'.cell? ⟨gb158, 2, none⟩ = some (.int .i64 t157) ∧ w'.cell? ⟨gb162, 0, none⟩ = some (.int .i64 t159) ∧ w'.cell? ⟨gb162, 1, none⟩ = some (.int .i64 t160) ∧ w'.cell? ⟨gb162, 2, none⟩ = some (.int .i64 t161) ∧ w'.cell? ⟨gb166, 0, none⟩ = some (.int .i64 t163) ∧ w'.cell? ⟨gb166, 1, none⟩ = some (.int .i64 t164) ∧ w'.cell? ⟨gb166, 2, none⟩ = some (.int .i64 t165) ∧ w'.cell? ⟨gb151, 0, none⟩ = some (.int .i64 a0_0) ∧ w'.cell? ⟨gb151, 1, none⟩ = some (.int .i64 a0_1) ∧ w'.cell? ⟨gb151, 2, none⟩ = some (.int .i64 a0_2) ∧ w'.cell? ⟨gb151, 3, none⟩ = some (.int .i64 a0_3) ∧ w'.cell? ⟨gb152, 0, none⟩ = some (.int .i64 a1_0) ∧ w'.cell? ⟨gb152, 1, none⟩ = some (.int .i64 a1_1) ∧ w'.cell? ⟨gb152, 2, none⟩ = some (.int .i64 a1_2) ∧ w'.cell? ⟨gb152, 3, none⟩ = some (.int .i64 a1_3) ∧ w'.cell? ⟨gb153, 0, none⟩ = some (.int .i64 a2_0) ∧ w'.cell? ⟨gb153, 1, none⟩ = some (.int .i64 a2_1) ∧ w'.cell? ⟨gb153, 2, none⟩ = some (.int .i64 a2_2) ∧ w'.cell? ⟨gb153, 3, none⟩ = some (.int .i64 a2_3)) ∧ (Kd.R (Kd.int .i64) 3 w' w.heap.size (fun k_ => some k_ ≠ (s_.2 : Value).ownBlock) s_.1 y174) ∧ (Kd.R (Kd.int .i64) 3 w' w.heap.size (fun k_ => some k_ ≠ (s_.1 : Value).ownBlock) s_.2 y177) ∧ (w'.heap[gb151]? = some (.cells #[.int .i64 a0_0, .int .i64 a0_1, .int .i64 a0_2, .int .i64 a0_3] 23 (0, 0))) ∧ (w'.heap[gb152]? = some (.cells #[.int .i64 a1_0, .int .i64 a1_1, .int .i64 a1_2, .int .i64 a1_3] 23 (0, 0))) ∧ (w'.heap[gb153]? = some (.cells #[.int .i64 a2_0, .int .i64 a2_1, .int .i64 a2_2, .int .i64 a2_3] 23 (0, 0))) ∧ (w'.heap[gb158]? = some (.cells #[.int .i64 t155, .int .i64 t156, .int .i64 t157] 128 (0, 0))) ∧ (w'.heap[gb162]? = some (.cells #[.int .i64 t159, .int .i64 t160, .int .i64 t161] 128 (0, 0))) ∧ (w'.heap[gb166]? = some (.cells #[.int .i64 t163, .int .i64 t164, .int .i64 t165] 128 (0, 0))) ∧ (Below w.heap.size w w')) ?_ ?_
          rotate_left
          ·intro hCont
           refine two_ (i := 9) (j := 16) (Ni := some 54) (Nj := some 61) (bl 19 65535) (bl 19 130559) rfl rfl rfl rfl (two_of HT_.out (by kernel_rfl)) (by decide) (by decide) (fun K hK => ?_) (fun K hK => ?_)
           ·skip
            refine Kd.R_lit_step (Kd.int .i64) _ 3 ?hg (N := 54) ?hd (xs := ([t156, t160, t164] : List Int)) (inner := [.int .i64 t156, .int .i64 t160, .int .i64 t164]) (ok := fun _ => True) (okp := fun _ => True) ?hr ?hp (fun _ hk => hk) trivial (Below.refl _ _) (Nat.le_refl _) (by simp) ?_; (case hd => rfl); (case hg => rfl); (case hr => first | (go_simp; done) | (go_simp; rfl)); (case hp => exact (Reps.one (show Kd.M (Kd.int .i64) _ _ _ t156 [.int .i64 t156] from rfl) (Reps.one (show Kd.M (Kd.int .i64) _ _ _ t160 [.int .i64 t160] from rfl) (Reps.one (show Kd.M (Kd.int .i64) _ _ _ t164 [.int .i64 t164] from rfl) (Reps.none _ _)))))
            intro v175 w167 ho168 hb hg_ hnew_
            clear hg_ hnew_
            (first | rw [← Ny174.out] at ho168 | (simp only [Int.reduceToNat] at ho168; rw [← Ny174.out] at ho168))
            have n0_ := Aside0.mk (Kd.R_lower ho168 (below_size (hbx HB)))
            have n1_ := kb BK151 hb
            have n2_ := kb BK152 hb
            have n3_ := kb BK153 hb
            have n4_ := kb BK158 hb
            have n5_ := kb BK162 hb
            have n6_ := kb BK166 hb
            have n7_ := bt HB hb
            clear BK151
            clear BK152
            clear BK153
            clear BK158
            clear BK162
            clear BK166
            clear HB
            have HO176 := n0_
            have BK151 := n1_
            have BK152 := n2_
            have BK153 := n3_
            have BK158 := n4_
            have BK162 := n5_
            have BK166 := n6_
            have HB := n7_
            clear n0_ n1_ n2_ n3_ n4_ n5_ n6_ n7_
            clear hb ho168
            refine ko hK (fun hHeld => ?_)
            clear hK K
            refine nm 54 ?_
            refine oS 16 61 131071 (fun K hK => ?_)
            refine Kd.R_lit_step (Kd.int .i64) _ 3 ?hg (N := 61) ?hd (xs := ([a0_3, a1_3, a2_3] : List Int)) (inner := [.int .i64 a0_3, .int .i64 a1_3, .int .i64 a2_3]) (ok := fun _ => True) (okp := fun _ => True) ?hr ?hp (fun _ hk => hk) trivial (Below.refl _ _) (Nat.le_refl _) (by simp) ?_; (case hd => rfl); (case hg => rfl); (case hr => first | (go_simp; done) | (go_simp; rfl)); (case hp => exact (Reps.one (show Kd.M (Kd.int .i64) _ _ _ a0_3 [.int .i64 a0_3] from rfl) (Reps.one (show Kd.M (Kd.int .i64) _ _ _ a1_3 [.int .i64 a1_3] from rfl) (Reps.one (show Kd.M (Kd.int .i64) _ _ _ a2_3 [.int .i64 a2_3] from rfl) (Reps.none _ _)))))
            intro v178 w169 ho170 hb hg_ hnew_
            clear hg_ hnew_
            (first | rw [← Ny177.out] at ho170 | (simp only [Int.reduceToNat] at ho170; rw [← Ny177.out] at ho170))
            have n0_ := Aside0.mk (Kd.R_elder' (by (with_reducible repeat (first | apply Kd.R_alloc | apply Kd.R_drewN | apply Kd.R_drew)); exact HO176.out) (Kd.R_base ho170) hb)
            have n1_ := Aside0.mk (Kd.R_lower (Kd.R_new' ho170 (Kd.R_lt (by (with_reducible repeat (first | apply Kd.R_alloc | apply Kd.R_drewN | apply Kd.R_drew)); exact HO176.out))) (below_size (hbx HB)))
            have n2_ := kb BK151 hb
            have n3_ := kb BK152 hb
            have n4_ := kb BK153 hb
            have n5_ := kb BK158 hb
            have n6_ := kb BK162 hb
            have n7_ := kb BK166 hb
            have n8_ := bt HB hb
            clear HO176
            clear BK151
            clear BK152
            clear BK153
            clear BK158
            clear BK162
            clear BK166
            clear HB
            have HO176 := n0_
            have HO179 := n1_
            have BK151 := n2_
            have BK152 := n3_
            have BK153 := n4_
            have BK158 := n5_
            have BK162 := n6_
            have BK166 := n7_
            have HB := n8_
            clear n0_ n1_ n2_ n3_ n4_ n5_ n6_ n7_ n8_
            clear hb ho170
            refine ko hK (fun hHeld => ?_)
            clear hK K
            refine nm 61 ?_
            exact norm_ (by simp only [putAll, Act.put, List.setIfInBounds_toArray, List.set_cons_zero, List.set_cons_succ]) (hCont (v175, v178) _ ⟨hHeld, (by (with_reducible repeat (first | apply Kd.R_alloc | apply Kd.R_drewN | apply Kd.R_drew)); exact Kd.R_mono HO176.out (fun _ hk => hk.2)), (by (with_reducible repeat (first | apply Kd.R_alloc | apply Kd.R_drewN | apply Kd.R_drew)); exact Kd.R_mono HO179.out (fun _ hk => hk.2)), (kbx BK151), (kbx BK152), (kbx BK153), (kbx BK158), (kbx BK162), (kbx BK166), (hbx HB)⟩)
           ·skip
            refine Kd.R_lit_step (Kd.int .i64) _ 3 ?hg (N := 61) ?hd (xs := ([a0_3, a1_3, a2_3] : List Int)) (inner := [.int .i64 a0_3, .int .i64 a1_3, .int .i64 a2_3]) (ok := fun _ => True) (okp := fun _ => True) ?hr ?hp (fun _ hk => hk) trivial (Below.refl _ _) (Nat.le_refl _) (by simp) ?_; (case hd => rfl); (case hg => rfl); (case hr => first | (go_simp; done) | (go_simp; rfl)); (case hp => exact (Reps.one (show Kd.M (Kd.int .i64) _ _ _ a0_3 [.int .i64 a0_3] from rfl) (Reps.one (show Kd.M (Kd.int .i64) _ _ _ a1_3 [.int .i64 a1_3] from rfl) (Reps.one (show Kd.M (Kd.int .i64) _ _ _ a2_3 [.int .i64 a2_3] from rfl) (Reps.none _ _)))))
            intro v178 w167 ho168 hb hg_ hnew_
            clear hg_ hnew_
            (first | rw [← Ny177.out] at ho168 | (simp only [Int.reduceToNat] at ho168; rw [← Ny177.out] at ho168))
            have n0_ := Aside0.mk (Kd.R_lower ho168 (below_size (hbx HB)))
            have n1_ := kb BK151 hb
            have n2_ := kb BK152 hb
            have n3_ := kb BK153 hb
            have n4_ := kb BK158 hb
            have n5_ := kb BK162 hb
            have n6_ := kb BK166 hb
            have n7_ := bt HB hb
            clear BK151
            clear BK152
            clear BK153
            clear BK158
            clear BK162
            clear BK166
            clear HB
            have HO179 := n0_
            have BK151 := n1_
            have BK152 := n2_
            have BK153 := n3_
            have BK158 := n4_
            have BK162 := n5_
            have BK166 := n6_
            have HB := n7_
            clear n0_ n1_ n2_ n3_ n4_ n5_ n6_ n7_
            clear hb ho168
            refine ko hK (fun hHeld => ?_)
            clear hK K
            refine nm 61 ?_
            refine oS 9 54 131071 (fun K hK => ?_)
            refine Kd.R_lit_step (Kd.int .i64) _ 3 ?hg (N := 54) ?hd (xs := ([t156, t160, t164] : List Int)) (inner := [.int .i64 t156, .int .i64 t160, .int .i64 t164]) (ok := fun _ => True) (okp := fun _ => True) ?hr ?hp (fun _ hk => hk) trivial (Below.refl _ _) (Nat.le_refl _) (by simp) ?_; (case hd => rfl); (case hg => rfl); (case hr => first | (go_simp; done) | (go_simp; rfl)); (case hp => exact (Reps.one (show Kd.M (Kd.int .i64) _ _ _ t156 [.int .i64 t156] from rfl) (Reps.one (show Kd.M (Kd.int .i64) _ _ _ t160 [.int .i64 t160] from rfl) (Reps.one (show Kd.M (Kd.int .i64) _ _ _ t164 [.int .i64 t164] from rfl) (Reps.none _ _)))))
            intro v175 w169 ho170 hb hg_ hnew_
            clear hg_ hnew_
            (first | rw [← Ny174.out] at ho170 | (simp only [Int.reduceToNat] at ho170; rw [← Ny174.out] at ho170))
            have n0_ := Aside0.mk (Kd.R_elder' (by (with_reducible repeat (first | apply Kd.R_alloc | apply Kd.R_drewN | apply Kd.R_drew)); exact HO179.out) (Kd.R_base ho170) hb)
            have n1_ := Aside0.mk (Kd.R_lower (Kd.R_new' ho170 (Kd.R_lt (by (with_reducible repeat (first | apply Kd.R_alloc | apply Kd.R_drewN | apply Kd.R_drew)); exact HO179.out))) (below_size (hbx HB)))
            have n2_ := kb BK151 hb
            have n3_ := kb BK152 hb
            have n4_ := kb BK153 hb
            have n5_ := kb BK158 hb
            have n6_ := kb BK162 hb
            have n7_ := kb BK166 hb
            have n8_ := bt HB hb
            clear HO179
            clear BK151
            clear BK152
            clear BK153
            clear BK158
            clear BK162
            clear BK166
            clear HB
            have HO179 := n0_
            have HO176 := n1_
            have BK151 := n2_
            have BK152 := n3_
            have BK153 := n4_
            have BK158 := n5_
            have BK162 := n6_
            have BK166 := n7_
            have HB := n8_
            clear n0_ n1_ n2_ n3_ n4_ n5_ n6_ n7_ n8_
            clear hb ho170
            refine ko hK (fun hHeld => ?_)
            clear hK K
            refine nm 54 ?_
            exact norm_ (by simp only [putAll, Act.put, List.setIfInBounds_toArray, List.set_cons_zero, List.set_cons_succ]) (hCont (v175, v178) _ ⟨hHeld, (by (with_reducible repeat (first | apply Kd.R_alloc | apply Kd.R_drewN | apply Kd.R_drew)); exact Kd.R_mono HO176.out (fun _ hk => hk.2)), (by (with_reducible repeat (first | apply Kd.R_alloc | apply Kd.R_drewN | apply Kd.R_drew)); exact Kd.R_mono HO179.out (fun _ hk => hk.2)), (kbx BK151), (kbx BK152), (kbx BK153), (kbx BK158), (kbx BK162), (kbx BK166), (hbx HB)⟩)
          rintro ⟨v175, v178⟩ w171 ⟨hS_, h0_, h1_, h2_, h3_, h4_, h5_, h6_, h7_, h8_⟩
          have n0_ : Aside0 (Kd.R (Kd.int .i64) 3 w171 w.heap.size (fun k_ => some k_ ≠ (v178 : Value).ownBlock) v175 y174) := ⟨h0_⟩
          have n1_ : Aside0 (Kd.R (Kd.int .i64) 3 w171 w.heap.size (fun k_ => some k_ ≠ (v175 : Value).ownBlock) v178 y177) := ⟨h1_⟩
          have n2_ : Aside0 (w171.heap[gb151]? = some (.cells #[.int .i64 a0_0, .int .i64 a0_1, .int .i64 a0_2, .int .i64 a0_3] 23 (0, 0))) := ⟨h2_⟩
          have n3_ : Aside0 (w171.heap[gb152]? = some (.cells #[.int .i64 a1_0, .int .i64 a1_1, .int .i64 a1_2, .int .i64 a1_3] 23 (0, 0))) := ⟨h3_⟩
          have n4_ : Aside0 (w171.heap[gb153]? = some (.cells #[.int .i64 a2_0, .int .i64 a2_1, .int .i64 a2_2, .int .i64 a2_3] 23 (0, 0))) := ⟨h4_⟩
          have n5_ : Aside0 (w171.heap[gb158]? = some (.cells #[.int .i64 t155, .int .i64 t156, .int .i64 t157] 128 (0, 0))) := ⟨h5_⟩
          have n6_ : Aside0 (w171.heap[gb162]? = some (.cells #[.int .i64 t159, .int .i64 t160, .int .i64 t161] 128 (0, 0))) := ⟨h6_⟩
          have n7_ : Aside0 (w171.heap[gb166]? = some (.cells #[.int .i64 t163, .int .i64 t164, .int .i64 t165] 128 (0, 0))) := ⟨h7_⟩
          have n8_ : Aside0 (Below w.heap.size w w171) := ⟨h8_⟩
          clear BK151
          clear BK152
          clear BK153
          clear BK158
          clear BK162
          clear BK166
          clear HB
          clear h0_ h1_ h2_ h3_ h4_ h5_ h6_ h7_ h8_
          have HO176 := n0_
          have HO179 := n1_
          have BK151 := n2_
          have BK152 := n3_
          have BK153 := n4_
          have BK158 := n5_
          have BK162 := n6_
          have BK166 := n7_
          have HB := n8_
          clear n0_ n1_ n2_ n3_ n4_ n5_ n6_ n7_ n8_
          have hHeld : w171.cell? ⟨gb158, 0, none⟩ = some (.int .i64 t155) ∧ w171.cell? ⟨gb158, 1, none⟩ = some (.int .i64 t156) ∧ w171.cell? ⟨gb158, 2, none⟩ = some (.int .i64 t157) ∧ w171.cell? ⟨gb162, 0, none⟩ = some (.int .i64 t159) ∧ w171.cell? ⟨gb162, 1, none⟩ = some (.int .i64 t160) ∧ w171.cell? ⟨gb162, 2, none⟩ = some (.int .i64 t161) ∧ w171.cell? ⟨gb166, 0, none⟩ = some (.int .i64 t163) ∧ w171.cell? ⟨gb166, 1, none⟩ = some (.int .i64 t164) ∧ w171.cell? ⟨gb166, 2, none⟩ = some (.int .i64 t165) ∧ w171.cell? ⟨gb151, 0, none⟩ = some (.int .i64 a0_0) ∧ w171.cell? ⟨gb151, 1, none⟩ = some (.int .i64 a0_1) ∧ w171.cell? ⟨gb151, 2, none⟩ = some (.int .i64 a0_2) ∧ w171.cell? ⟨gb151, 3, none⟩ = some (.int .i64 a0_3) ∧ w171.cell? ⟨gb152, 0, none⟩ = some (.int .i64 a1_0) ∧ w171.cell? ⟨gb152, 1, none⟩ = some (.int .i64 a1_1) ∧ w171.cell? ⟨gb152, 2, none⟩ = some (.int .i64 a1_2) ∧ w171.cell? ⟨gb152, 3, none⟩ = some (.int .i64 a1_3) ∧ w171.cell? ⟨gb153, 0, none⟩ = some (.int .i64 a2_0) ∧ w171.cell? ⟨gb153, 1, none⟩ = some (.int .i64 a2_1) ∧ w171.cell? ⟨gb153, 2, none⟩ = some (.int .i64 a2_2) ∧ w171.cell? ⟨gb153, 3, none⟩ = some (.int .i64 a2_3) := hS_
          obtain ⟨Ao172, co172, eo172⟩ := Kd.R_slice HO176.out
          (first | subst eo172 | (injection eo172 with f1_ f2_ f3_; have f4_ := f1_.symm; have f5_ := f3_.symm; clear f1_ f2_ f3_; subst f4_; subst f5_))
          obtain ⟨Ao173, co173, eo173⟩ := Kd.R_slice HO179.out
          (first | subst eo173 | (injection eo173 with f1_ f2_ f3_; have f4_ := f1_.symm; have f5_ := f3_.symm; clear f1_ f2_ f3_; subst f4_; subst f5_))
          refine norm_ (a' := ?_) ?_ ?_
          rotate_left
          ·simp only [putAll, Act.put, List.setIfInBounds_toArray, List.set_cons_zero, List.set_cons_succ]
           rfl
          refine oS 17 62 262143 (fun K hK => ?_)
          refine gO Try.func176 #[.slice Ao172 y174.length co172, .slice Ao173 y177.length co173] ?_
          with_reducible refine (spec_l6Sum.calls kj46 _ _ y174 _ _ y177 t180 _ ?side1 ?side2 ?side3 ?side4 A165.out).mono ?_
          (case side1 => repeat (first | exact (Kd.R_reads' HO176.out).2.2 | (with_reducible refine Kd.C_alloc ?_ _) | (with_reducible refine Kd.C_drewN ?_ _) | (with_reducible refine Kd.C_drew ?_)))
          (case side2 => exact (Kd.R_reads' HO176.out).2.1)
          (case side3 => repeat (first | exact (Kd.R_reads' HO179.out).2.2 | (with_reducible refine Kd.C_alloc ?_ _) | (with_reducible refine Kd.C_drewN ?_ _) | (with_reducible refine Kd.C_drew ?_)))
          (case side4 => exact (Kd.R_reads' HO179.out).2.1)
          rintro e w' ⟨rfl, ⟨nd, rfl⟩⟩
          refine ⟨_, rfl, ?_⟩
          refine ko hK (fun hHeld => ?_)
          clear hK K
          refine nm 62 ?_
          refine pS 18 6 524287 ?_
          refine done_ (done_of HT_.out (by kernel_rfl)) ?_
          try go_wp2
          go_ret
          exact fin HB
         ·rw [if_neg c164] at H
          by_cases c174 : x10_1 = 2
          ·subst c174
           have H1 : ((spec_l6Sum.f kj46 (([t157, t161, t165] : List Int)) (([a0_3, a1_3, a2_3] : List Int))).bind fun t187 => (some t187)) = some r := by rw [if_pos rfl] at H; exact H
           clear H
           have H := H1
           clear H1
           obtain ⟨y181, hy181⟩ : ∃ y_ : List Int, y_ = (([t157, t161, t165] : List Int)) := ⟨_, rfl⟩
           replace H : ((spec_l6Sum.f kj46 y181 (([a0_3, a1_3, a2_3] : List Int))).bind fun t187 => (some t187)) = some r := by first | (rw [hy181]; with_reducible exact H) | (have H2_ := (Option.bind_some _ _).symm.trans H; rw [hy181]; with_reducible exact H2_) | (have H2_ := (Option.bind_some _ _).symm.trans H; with_reducible exact H2_) | with_reducible exact H | (rw [hy181]; exact H) | exact H
           have Ny181 := Aside0.mk hy181
           clear hy181
           obtain ⟨y184, hy184⟩ : ∃ y_ : List Int, y_ = (([a0_3, a1_3, a2_3] : List Int)) := ⟨_, rfl⟩
           replace H : ((spec_l6Sum.f kj46 y181 y184).bind fun t187 => (some t187)) = some r := by first | (rw [hy184]; with_reducible exact H) | (have H2_ := (Option.bind_some _ _).symm.trans H; rw [hy184]; with_reducible exact H2_) | (have H2_ := (Option.bind_some _ _).symm.trans H; with_reducible exact H2_) | with_reducible exact H | (rw [hy184]; exact H) | exact H
           have Ny184 := Aside0.mk hy184
           clear hy184
           obtain ⟨t187, A175, H⟩ := bi H
           obtain rfl := Option.some.inj H
           try go_wp2
           have n0_ := Aside0.mk (blk_drew BK151.out)
           have n1_ := Aside0.mk (blk_drew BK152.out)
           have n2_ := Aside0.mk (blk_drew BK153.out)
           have n3_ := Aside0.mk (blk_drew BK158.out)
           have n4_ := Aside0.mk (blk_drew BK162.out)
           have n5_ := Aside0.mk (blk_drew BK166.out)
           have n6_ := Aside0.mk (below_drew1 HB.out)
           clear BK151
           clear BK152
           clear BK153
           clear BK158
           clear BK162
           clear BK166
           clear HB
           have BK151 := n0_
           have BK152 := n1_
           have BK153 := n2_
           have BK158 := n3_
           have BK162 := n4_
           have BK166 := n5_
           have HB := n6_
           clear n0_ n1_ n2_ n3_ n4_ n5_ n6_
           refine start_ (n := 19) (S := fun w' => w'.cell? ⟨gb158, 0, none⟩ = some (.int .i64 t155) ∧ w'.cell? ⟨gb158, 1, none⟩ = some (.int .i64 t156) ∧ w'.cell? ⟨gb158, 2, none⟩ = some (.int .i64 t157) ∧ w'.cell? ⟨gb162, 0, none⟩ = some (.int .i64 t159) ∧ w'.cell? ⟨gb162, 1, none⟩ = some (.int .i64 t160) ∧ w'.cell? ⟨gb162, 2, none⟩ = some (.int .i64 t161) ∧ w'.cell? ⟨gb166, 0, none⟩ = some (.int .i64 t163) ∧ w'.cell? ⟨gb166, 1, none⟩ = some (.int .i64 t164) ∧ w'.cell? ⟨gb166, 2, none⟩ = some (.int .i64 t165) ∧ w'.cell? ⟨gb151, 0, none⟩ = some (.int .i64 a0_0) ∧ w'.cell? ⟨gb151, 1, none⟩ = some (.int .i64 a0_1) ∧ w'.cell? ⟨gb151, 2, none⟩ = some (.int .i64 a0_2) ∧ w'.cell? ⟨gb151, 3, none⟩ = some (.int .i64 a0_3) ∧ w'.cell? ⟨gb152, 0, none⟩ = some (.int .i64 a1_0) ∧ w'.cell? ⟨gb152, 1, none⟩ = some (.int .i64 a1_1) ∧ w'.cell? ⟨gb152, 2, none⟩ = some (.int .i64 a1_2) ∧ w'.cell? ⟨gb152, 3, none⟩ = some (.int .i64 a1_3) ∧ w'.cell? ⟨gb153, 0, none⟩ = some (.int .i64 a2_0) ∧ w'.cell? ⟨gb153, 1, none⟩ = some (.int .i64 a2_1) ∧ w'.cell? ⟨gb153, 2, none⟩ = some (.int .i64 a2_2) ∧ w'.cell? ⟨gb153, 3, none⟩ = some (.int .i64 a2_3)) (ds := []) (bl 19 0) (by kernel_rfl) rfl rfl ⟨(blk_cell BK158.out 0).trans rfl, (blk_cell BK158.out 1).trans rfl, (blk_cell BK158.out 2).trans rfl, (blk_cell BK162.out 0).trans rfl, (blk_cell BK162.out 1).trans rfl, (blk_cell BK162.out 2).trans rfl, (blk_cell BK166.out 0).trans rfl, (blk_cell BK166.out 1).trans rfl, (blk_cell BK166.out 2).trans rfl, (blk_cell BK151.out 0).trans rfl, (blk_cell BK151.out 1).trans rfl, (blk_cell BK151.out 2).trans rfl, (blk_cell BK151.out 3).trans rfl, (blk_cell BK152.out 0).trans rfl, (blk_cell BK152.out 1).trans rfl, (blk_cell BK152.out 2).trans rfl, (blk_cell BK152.out 3).trans rfl, (blk_cell BK153.out 0).trans rfl, (blk_cell BK153.out 1).trans rfl, (blk_cell BK153.out 2).trans rfl, (blk_cell BK153.out 3).trans rfl⟩ (fun hHeld => ?_); refine with_tabW spec_l6Clash3.tab10 spec_l6Clash3.bits10 (fun HT_ HW_ => ?_)
           generalize wc.drew = w176 at BK151 BK152 BK153 BK158 BK162 BK166 HB hHeld ⊢
           refine pS 0 45 1 ?_
           refine pS 1 46 3 ?_
           refine pS 3 48 11 ?_
           refine pS 4 49 27 ?_
           refine pS 6 51 91 ?_
           refine pS 7 52 219 ?_
           refine pS 10 55 1243 ?_
           refine pS 12 57 5339 ?_
           refine pS 14 59 21723 ?_
           refine tS 2 47 21727 ?_
           refine tS 5 50 21759 ?_
           refine tS 8 53 22015 ?_
           refine tS 11 56 24063 ?_
           refine tS 13 58 32255 ?_
           refine tS 15 60 65023 ?_
           refine join_ (σ := Value × Value) 2 (bl 19 131071) (fun s_ => [(54, s_.1), (61, s_.2)]) (fun s_ w' => (w'.cell? ⟨gb158, 0, none⟩ = some (.int .i64 t155) ∧ w'.cell? ⟨gb158, 1, none⟩ = some (.int .i64 t156) ∧ w'.cell? ⟨gb158, 2, none⟩ = some (.int .i64 t157) ∧ w'.cell? ⟨gb162, 0, none⟩ = some (.int .i64 t159) ∧ w'.cell? ⟨gb162, 1, none⟩ = some (.int .i64 t160) ∧ w'.cell? ⟨gb162, 2, none⟩ = some (.int .i64 t161) ∧ w'.cell? ⟨gb166, 0, none⟩ = some (.int .i64 t163) ∧ w'.cell? ⟨gb166, 1, none⟩ = some (.int .i64 t164) ∧ w'.cell? ⟨gb166, 2, none⟩ = some (.int .i64 t165) ∧ w'.cell? ⟨gb151, 0, none⟩ = some (.int .i64 a0_0) ∧ w'.cell? ⟨gb151, 1, none⟩ = some (.int .i64 a0_1) ∧ w'.cell? ⟨gb151, 2, none⟩ = some (.int .i64 a0_2) ∧ w'.cell? ⟨gb151, 3, none⟩ = some (.int .i64 a0_3) ∧ w'.cell? ⟨gb152, 0, none⟩ = some (.int .i64 a1_0) ∧ w'.cell? ⟨gb152, 1, none⟩ = some (.int .i64 a1_1) ∧ w'.cell? ⟨gb152, 2, none⟩ = some (.int .i64 a1_2) ∧ w'.cell? ⟨gb152, 3, none⟩ = some (.int .i64 a1_3) ∧ w'.cell? ⟨gb153, 0, none⟩ = some (.int .i64 a2_0) ∧ w'.cell? ⟨gb153, 1, none⟩ = some (.int .i64 a2_1) ∧ w'.cell? ⟨gb153, 2, none⟩ = some (.int .i64 a2_2) ∧ w'.cell? ⟨gb153, 3, none⟩ = some (.int .i64 a2_3)) ∧ (Kd.R (Kd.int .i64) 3 w' w.heap.size (fun k_ => some k_ ≠ (s_.2 : Value).ownBlock) s_.1 y181) ∧ (Kd.R (Kd.int .i64) 3 w' w.heap.size (fun k_ => some k_ ≠ (s_.1 : Value).ownBlock) s_.2 y184) ∧ (w'.heap[gb151]? = some (.cells #[.int .i64 a0_0, .int .i64 a0_1, .int .i64 a0_2, .int .i64 a0_3] 23 (0, 0))) ∧ (w'.heap[gb152]? = some (.cells #[.int .i64 a1_0, .int .i64 a1_1, .int .i64 a1_2, .int .i64 a1_3] 23 (0, 0))) ∧ (w'.heap[gb153]? = some (.cells #[.int .i64 a2_0, .int .i64 a2_1, .int .i64 a2_2, .int .i64 a2_3] 23 (0, 0))) ∧ (w'.heap[gb158]? = some (.cells #[.int .i64 t155, .int .i64 t156, .int .i64 t157] 128 (0, 0))) ∧ (w'.heap[gb162]? = some (.cells #[.int .i64 t159, .int .i64 t160, .int .i64 t161] 128 (0, 0))) ∧ (w'.heap[gb166]? = some (.cells #[.int .i64 t163, .int .i64 t164, .int .i64 t165] 128 (0, 0))) ∧ (Below w.heap.size w w')) ?_ ?_
           rotate_left
           ·intro hCont
            refine two_ (i := 9) (j := 16) (Ni := some 54) (Nj := some 61) (bl 19 65535) (bl 19 130559) rfl rfl rfl rfl (two_of HT_.out (by kernel_rfl)) (by decide) (by decide) (fun K hK => ?_) (fun K hK => ?_)
            ·skip
             refine Kd.R_lit_step (Kd.int .i64) _ 3 ?hg (N := 54) ?hd (xs := ([t157, t161, t165] : List Int)) (inner := [.int .i64 t157, .int .i64 t161, .int .i64 t165]) (ok := fun _ => True) (okp := fun _ => True) ?hr ?hp (fun _ hk => hk) trivial (Below.refl _ _) (Nat.le_refl _) (by simp) ?_; (case hd => rfl); (case hg => rfl); (case hr => first | (go_simp; done) | (go_simp; rfl)); (case hp => exact (Reps.one (show Kd.M (Kd.int .i64) _ _ _ t157 [.int .i64 t157] from rfl) (Reps.one (show Kd.M (Kd.int .i64) _ _ _ t161 [.int .i64 t161] from rfl) (Reps.one (show Kd.M (Kd.int .i64) _ _ _ t165 [.int .i64 t165] from rfl) (Reps.none _ _)))))
             intro v182 w177 ho178 hb hg_ hnew_
             clear hg_ hnew_
             (first | rw [← Ny181.out] at ho178 | (simp only [Int.reduceToNat] at ho178; rw [← Ny181.out] at ho178))
             have n0_ := Aside0.mk (Kd.R_lower ho178 (below_size (hbx HB)))
             have n1_ := kb BK151 hb
             have n2_ := kb BK152 hb
             have n3_ := kb BK153 hb
             have n4_ := kb BK158 hb
             have n5_ := kb BK162 hb
             have n6_ := kb BK166 hb
             have n7_ := bt HB hb
             clear BK151
             clear BK152
             clear BK153
             clear BK158
             clear BK162
             clear BK166
             clear HB
             have HO183 := n0_
             have BK151 := n1_
             have BK152 := n2_
             have BK153 := n3_
             have BK158 := n4_
             have BK162 := n5_
             have BK166 := n6_
             have HB := n7_
             clear n0_ n1_ n2_ n3_ n4_ n5_ n6_ n7_
             clear hb ho178
             refine ko hK (fun hHeld => ?_)
             clear hK K
             refine nm 54 ?_
             refine oS 16 61 131071 (fun K hK => ?_)
             refine Kd.R_lit_step (Kd.int .i64) _ 3 ?hg (N := 61) ?hd (xs := ([a0_3, a1_3, a2_3] : List Int)) (inner := [.int .i64 a0_3, .int .i64 a1_3, .int .i64 a2_3]) (ok := fun _ => True) (okp := fun _ => True) ?hr ?hp (fun _ hk => hk) trivial (Below.refl _ _) (Nat.le_refl _) (by simp) ?_; (case hd => rfl); (case hg => rfl); (case hr => first | (go_simp; done) | (go_simp; rfl)); (case hp => exact (Reps.one (show Kd.M (Kd.int .i64) _ _ _ a0_3 [.int .i64 a0_3] from rfl) (Reps.one (show Kd.M (Kd.int .i64) _ _ _ a1_3 [.int .i64 a1_3] from rfl) (Reps.one (show Kd.M (Kd.int .i64) _ _ _ a2_3 [.int .i64 a2_3] from rfl) (Reps.none _ _)))))
             intro v185 w179 ho180 hb hg_ hnew_
             clear hg_ hnew_
             (first | rw [← Ny184.out] at ho180 | (simp only [Int.reduceToNat] at ho180; rw [← Ny184.out] at ho180))
             have n0_ := Aside0.mk (Kd.R_elder' (by (with_reducible repeat (first | apply Kd.R_alloc | apply Kd.R_drewN | apply Kd.R_drew)); exact HO183.out) (Kd.R_base ho180) hb)
             have n1_ := Aside0.mk (Kd.R_lower (Kd.R_new' ho180 (Kd.R_lt (by (with_reducible repeat (first | apply Kd.R_alloc | apply Kd.R_drewN | apply Kd.R_drew)); exact HO183.out))) (below_size (hbx HB)))
             have n2_ := kb BK151 hb
             have n3_ := kb BK152 hb
             have n4_ := kb BK153 hb
             have n5_ := kb BK158 hb
             have n6_ := kb BK162 hb
             have n7_ := kb BK166 hb
             have n8_ := bt HB hb
             clear HO183
             clear BK151
             clear BK152
             clear BK153
             clear BK158
             clear BK162
             clear BK166
             clear HB
             have HO183 := n0_
             have HO186 := n1_
             have BK151 := n2_
             have BK152 := n3_
             have BK153 := n4_
             have BK158 := n5_
             have BK162 := n6_
             have BK166 := n7_
             have HB := n8_
             clear n0_ n1_ n2_ n3_ n4_ n5_ n6_ n7_ n8_
             clear hb ho180
             refine ko hK (fun hHeld => ?_)
             clear hK K
             refine nm 61 ?_
             exact norm_ (by simp only [putAll, Act.put, List.setIfInBounds_toArray, List.set_cons_zero, List.set_cons_succ]) (hCont (v182, v185) _ ⟨hHeld, (by (with_reducible repeat (first | apply Kd.R_alloc | apply Kd.R_drewN | apply Kd.R_drew)); exact Kd.R_mono HO183.out (fun _ hk => hk.2)), (by (with_reducible repeat (first | apply Kd.R_alloc | apply Kd.R_drewN | apply Kd.R_drew)); exact Kd.R_mono HO186.out (fun _ hk => hk.2)), (kbx BK151), (kbx BK152), (kbx BK153), (kbx BK158), (kbx BK162), (kbx BK166), (hbx HB)⟩)
            ·skip
             refine Kd.R_lit_step (Kd.int .i64) _ 3 ?hg (N := 61) ?hd (xs := ([a0_3, a1_3, a2_3] : List Int)) (inner := [.int .i64 a0_3, .int .i64 a1_3, .int .i64 a2_3]) (ok := fun _ => True) (okp := fun _ => True) ?hr ?hp (fun _ hk => hk) trivial (Below.refl _ _) (Nat.le_refl _) (by simp) ?_; (case hd => rfl); (case hg => rfl); (case hr => first | (go_simp; done) | (go_simp; rfl)); (case hp => exact (Reps.one (show Kd.M (Kd.int .i64) _ _ _ a0_3 [.int .i64 a0_3] from rfl) (Reps.one (show Kd.M (Kd.int .i64) _ _ _ a1_3 [.int .i64 a1_3] from rfl) (Reps.one (show Kd.M (Kd.int .i64) _ _ _ a2_3 [.int .i64 a2_3] from rfl) (Reps.none _ _)))))
             intro v185 w177 ho178 hb hg_ hnew_
             clear hg_ hnew_
             (first | rw [← Ny184.out] at ho178 | (simp only [Int.reduceToNat] at ho178; rw [← Ny184.out] at ho178))
             have n0_ := Aside0.mk (Kd.R_lower ho178 (below_size (hbx HB)))
             have n1_ := kb BK151 hb
             have n2_ := kb BK152 hb
             have n3_ := kb BK153 hb
             have n4_ := kb BK158 hb
             have n5_ := kb BK162 hb
             have n6_ := kb BK166 hb
             have n7_ := bt HB hb
             clear BK151
             clear BK152
             clear BK153
             clear BK158
             clear BK162
             clear BK166
             clear HB
             have HO186 := n0_
             have BK151 := n1_
             have BK152 := n2_
             have BK153 := n3_
             have BK158 := n4_
             have BK162 := n5_
             have BK166 := n6_
             have HB := n7_
             clear n0_ n1_ n2_ n3_ n4_ n5_ n6_ n7_
             clear hb ho178
             refine ko hK (fun hHeld => ?_)
             clear hK K
             refine nm 61 ?_
             refine oS 9 54 131071 (fun K hK => ?_)
             refine Kd.R_lit_step (Kd.int .i64) _ 3 ?hg (N := 54) ?hd (xs := ([t157, t161, t165] : List Int)) (inner := [.int .i64 t157, .int .i64 t161, .int .i64 t165]) (ok := fun _ => True) (okp := fun _ => True) ?hr ?hp (fun _ hk => hk) trivial (Below.refl _ _) (Nat.le_refl _) (by simp) ?_; (case hd => rfl); (case hg => rfl); (case hr => first | (go_simp; done) | (go_simp; rfl)); (case hp => exact (Reps.one (show Kd.M (Kd.int .i64) _ _ _ t157 [.int .i64 t157] from rfl) (Reps.one (show Kd.M (Kd.int .i64) _ _ _ t161 [.int .i64 t161] from rfl) (Reps.one (show Kd.M (Kd.int .i64) _ _ _ t165 [.int .i64 t165] from rfl) (Reps.none _ _)))))
             intro v182 w179 ho180 hb hg_ hnew_
             clear hg_ hnew_
             (first | rw [← Ny181.out] at ho180 | (simp only [Int.reduceToNat] at ho180; rw [← Ny181.out] at ho180))
             have n0_ := Aside0.mk (Kd.R_elder' (by (with_reducible repeat (first | apply Kd.R_alloc | apply Kd.R_drewN | apply Kd.R_drew)); exact HO186.out) (Kd.R_base ho180) hb)
             have n1_ := Aside0.mk (Kd.R_lower (Kd.R_new' ho180 (Kd.R_lt (by (with_reducible repeat (first | apply Kd.R_alloc | apply Kd.R_drewN | apply Kd.R_drew)); exact HO186.out))) (below_size (hbx HB)))
             have n2_ := kb BK151 hb
             have n3_ := kb BK152 hb
             have n4_ := kb BK153 hb
             have n5_ := kb BK158 hb
             have n6_ := kb BK162 hb
             have n7_ := kb BK166 hb
             have n8_ := bt HB hb
             clear HO186
             clear BK151
             clear BK152
             clear BK153
             clear BK158
             clear BK162
             clear BK166
             clear HB
             have HO186 := n0_
             have HO183 := n1_
             have BK151 := n2_
             have BK152 := n3_
             have BK153 := n4_
             have BK158 := n5_
             have BK162 := n6_
             have BK166 := n7_
             have HB := n8_
             clear n0_ n1_ n2_ n3_ n4_ n5_ n6_ n7_ n8_
             clear hb ho180
             refine ko hK (fun hHeld => ?_)
             clear hK K
             refine nm 54 ?_
             exact norm_ (by simp only [putAll, Act.put, List.setIfInBounds_toArray, List.set_cons_zero, List.set_cons_succ]) (hCont (v182, v185) _ ⟨hHeld, (by (with_reducible repeat (first | apply Kd.R_alloc | apply Kd.R_drewN | apply Kd.R_drew)); exact Kd.R_mono HO183.out (fun _ hk => hk.2)), (by (with_reducible repeat (first | apply Kd.R_alloc | apply Kd.R_drewN | apply Kd.R_drew)); exact Kd.R_mono HO186.out (fun _ hk => hk.2)), (kbx BK151), (kbx BK152), (kbx BK153), (kbx BK158), (kbx BK162), (kbx BK166), (hbx HB)⟩)
           rintro ⟨v182, v185⟩ w181 ⟨hS_, h0_, h1_, h2_, h3_, h4_, h5_, h6_, h7_, h8_⟩
           have n0_ : Aside0 (Kd.R (Kd.int .i64) 3 w181 w.heap.size (fun k_ => some k_ ≠ (v185 : Value).ownBlock) v182 y181) := ⟨h0_⟩
           have n1_ : Aside0 (Kd.R (Kd.int .i64) 3 w181 w.heap.size (fun k_ => some k_ ≠ (v182 : Value).ownBlock) v185 y184) := ⟨h1_⟩
           have n2_ : Aside0 (w181.heap[gb151]? = some (.cells #[.int .i64 a0_0, .int .i64 a0_1, .int .i64 a0_2, .int .i64 a0_3] 23 (0, 0))) := ⟨h2_⟩
           have n3_ : Aside0 (w181.heap[gb152]? = some (.cells #[.int .i64 a1_0, .int .i64 a1_1, .int .i64 a1_2, .int .i64 a1_3] 23 (0, 0))) := ⟨h3_⟩
           have n4_ : Aside0 (w181.heap[gb153]? = some (.cells #[.int .i64 a2_0, .int .i64 a2_1, .int .i64 a2_2, .int .i64 a2_3] 23 (0, 0))) := ⟨h4_⟩
           have n5_ : Aside0 (w181.heap[gb158]? = some (.cells #[.int .i64 t155, .int .i64 t156, .int .i64 t157] 128 (0, 0))) := ⟨h5_⟩
           have n6_ : Aside0 (w181.heap[gb162]? = some (.cells #[.int .i64 t159, .int .i64 t160, .int .i64 t161] 128 (0, 0))) := ⟨h6_⟩
           have n7_ : Aside0 (w181.heap[gb166]? = some (.cells #[.int .i64 t163, .int .i64 t164, .int .i64 t165] 128 (0, 0))) := ⟨h7_⟩
           have n8_ : Aside0 (Below w.heap.size w w181) := ⟨h8_⟩
           clear BK151
           clear BK152
           clear BK153
           clear BK158
           clear BK162
           clear BK166
           clear HB
           clear h0_ h1_ h2_ h3_ h4_ h5_ h6_ h7_ h8_
           have HO183 := n0_
           have HO186 := n1_
           have BK151 := n2_
           have BK152 := n3_
           have BK153 := n4_
           have BK158 := n5_
           have BK162 := n6_
           have BK166 := n7_
           have HB := n8_
           clear n0_ n1_ n2_ n3_ n4_ n5_ n6_ n7_ n8_
           have hHeld : w181.cell? ⟨gb158, 0, none⟩ = some (.int .i64 t155) ∧ w181.cell? ⟨gb158, 1, none⟩ = some (.int .i64 t156) ∧ w181.cell? ⟨gb158, 2, none⟩ = some (.int .i64 t157) ∧ w181.cell? ⟨gb162, 0, none⟩ = some (.int .i64 t159) ∧ w181.cell? ⟨gb162, 1, none⟩ = some (.int .i64 t160) ∧ w181.cell? ⟨gb162, 2, none⟩ = some (.int .i64 t161) ∧ w181.cell? ⟨gb166, 0, none⟩ = some (.int .i64 t163) ∧ w181.cell? ⟨gb166, 1, none⟩ = some (.int .i64 t164) ∧ w181.cell? ⟨gb166, 2, none⟩ = some (.int .i64 t165) ∧ w181.cell? ⟨gb151, 0, none⟩ = some (.int .i64 a0_0) ∧ w181.cell? ⟨gb151, 1, none⟩ = some (.int .i64 a0_1) ∧ w181.cell? ⟨gb151, 2, none⟩ = some (.int .i64 a0_2) ∧ w181.cell? ⟨gb151, 3, none⟩ = some (.int .i64 a0_3) ∧ w181.cell? ⟨gb152, 0, none⟩ = some (.int .i64 a1_0) ∧ w181.cell? ⟨gb152, 1, none⟩ = some (.int .i64 a1_1) ∧ w181.cell? ⟨gb152, 2, none⟩ = some (.int .i64 a1_2) ∧ w181.cell? ⟨gb152, 3, none⟩ = some (.int .i64 a1_3) ∧ w181.cell? ⟨gb153, 0, none⟩ = some (.int .i64 a2_0) ∧ w181.cell? ⟨gb153, 1, none⟩ = some (.int .i64 a2_1) ∧ w181.cell? ⟨gb153, 2, none⟩ = some (.int .i64 a2_2) ∧ w181.cell? ⟨gb153, 3, none⟩ = some (.int .i64 a2_3) := hS_
           obtain ⟨Ao182, co182, eo182⟩ := Kd.R_slice HO183.out
           (first | subst eo182 | (injection eo182 with f1_ f2_ f3_; have f4_ := f1_.symm; have f5_ := f3_.symm; clear f1_ f2_ f3_; subst f4_; subst f5_))
           obtain ⟨Ao183, co183, eo183⟩ := Kd.R_slice HO186.out
           (first | subst eo183 | (injection eo183 with f1_ f2_ f3_; have f4_ := f1_.symm; have f5_ := f3_.symm; clear f1_ f2_ f3_; subst f4_; subst f5_))
           refine norm_ (a' := ?_) ?_ ?_
           rotate_left
           ·simp only [putAll, Act.put, List.setIfInBounds_toArray, List.set_cons_zero, List.set_cons_succ]
            rfl
           refine oS 17 62 262143 (fun K hK => ?_)
           refine gO Try.func176 #[.slice Ao182 y181.length co182, .slice Ao183 y184.length co183] ?_
           with_reducible refine (spec_l6Sum.calls kj46 _ _ y181 _ _ y184 t187 _ ?side1 ?side2 ?side3 ?side4 A175.out).mono ?_
           (case side1 => repeat (first | exact (Kd.R_reads' HO183.out).2.2 | (with_reducible refine Kd.C_alloc ?_ _) | (with_reducible refine Kd.C_drewN ?_ _) | (with_reducible refine Kd.C_drew ?_)))
           (case side2 => exact (Kd.R_reads' HO183.out).2.1)
           (case side3 => repeat (first | exact (Kd.R_reads' HO186.out).2.2 | (with_reducible refine Kd.C_alloc ?_ _) | (with_reducible refine Kd.C_drewN ?_ _) | (with_reducible refine Kd.C_drew ?_)))
           (case side4 => exact (Kd.R_reads' HO186.out).2.1)
           rintro e w' ⟨rfl, ⟨nd, rfl⟩⟩
           refine ⟨_, rfl, ?_⟩
           refine ko hK (fun hHeld => ?_)
           clear hK K
           refine nm 62 ?_
           refine pS 18 6 524287 ?_
           refine done_ (done_of HT_.out (by kernel_rfl)) ?_
           try go_wp2
           go_ret
           exact fin HB
          ·rw [if_neg c174] at H
           exact absurd H (by simp)
       ·replace c153 := Bool.eq_false_iff.mpr c153
        subst c153
        have H1 : (spec_l6Clash3.l0 kj46 (wrap64 (x10_1 + 1)) a0_0 a0_1 a0_2 a0_3 a1_0 a1_1 a1_2 a1_3 a2_0 a2_1 a2_2 a2_3 t155 t156 t157 t159 t160 t161 t163 t164 t165) = some r := by rw [if_neg (show ¬ (false = true) by decide)] at H; exact H
        clear H
        have H := H1
        clear H1
        have H' := Aside0.mk H
        clear H
        go_wp2
        go_roundg kj46
        case measure => have := HK1.out; have := HJ46.out; omega
        case rel => exact ⟨(wrap64 (x10_1 + 1)), re, H', ⟨by have := HK1.out; have := HJ46.out; omega⟩, ⟨by (with_reducible repeat (first | refine blk_drewN ?_ _ | refine blk_drew ?_ | refine blk_alloc ?_ _)); exact BK151.out⟩, ⟨by (with_reducible repeat (first | refine blk_drewN ?_ _ | refine blk_drew ?_ | refine blk_alloc ?_ _)); exact BK152.out⟩, ⟨by (with_reducible repeat (first | refine blk_drewN ?_ _ | refine blk_drew ?_ | refine blk_alloc ?_ _)); exact BK153.out⟩, ⟨by (with_reducible repeat (first | refine blk_drewN ?_ _ | refine blk_drew ?_ | refine blk_alloc ?_ _)); exact BK158.out⟩, ⟨by (with_reducible repeat (first | refine blk_drewN ?_ _ | refine blk_drew ?_ | refine blk_alloc ?_ _)); exact BK162.out⟩, ⟨by (with_reducible repeat (first | refine blk_drewN ?_ _ | refine blk_drew ?_ | refine blk_alloc ?_ _)); exact BK166.out⟩, ⟨by repeat (first | (with_reducible first | exact HB.out | apply below_alloc | apply pw_below_drewN | apply below_drew1 | refine below_set ?_ GE151.out | refine below_set ?_ GE152.out | refine below_set ?_ GE153.out | refine below_set ?_ GE158.out | refine below_set ?_ GE162.out | refine below_set ?_ GE166.out) | exact HB.out)⟩⟩
    ·rw [if_neg c46] at H
     have c46b0 : decide (x10_1 < 3) = false := decide_eq_false c46
     clear c46
     obtain rfl := Option.some.inj H
     go_wp2
     go_ret
     exact fin HB
 ·rw [if_neg c5] at H
  have c5b0 : (t154 == 0) = false := beq_eq_false_iff_ne.mpr c5
  have c5b1 : (t154 != 0) = true := bne_iff_ne.mpr c5
  obtain rfl := Option.some.inj H
  go_enter Try.func162, Try.ntmps162
  go_wp2_with (first | ((with_reducible refine gate_dst (N := 3) rfl ?_); refine box_event ?hg (N := 3) ?hd (cs := #[.int .i64 a0_0, .int .i64 a0_1, .int .i64 a0_2, .int .i64 a0_3]) (t := 23) ?hr ?_; (case hd => rfl); (case hg => rfl); (case hr => first | (go_simp; done) | (go_simp; rfl)); intro gb151 hg w184 hbox hb; have n0_ := bt HB hb; have n1_ := Aside0.mk (hbox); have n2_ := gx hg HB; have n3_ := gx hg HB; clear HB; have HB := n0_; have BK151 := n1_; have GW151 := n2_; have GE151 := n3_; clear n0_ n1_ n2_ n3_; clear hb hbox hg) | ((with_reducible refine gate_dst (N := 4) rfl ?_); refine box_event ?hg (N := 4) ?hd (cs := #[.int .i64 a1_0, .int .i64 a1_1, .int .i64 a1_2, .int .i64 a1_3]) (t := 23) ?hr ?_; (case hd => rfl); (case hg => rfl); (case hr => first | (go_simp; done) | (go_simp; rfl)); intro gb152 hg w185 hbox hb; have n0_ := kb BK151 hb; have n1_ := bt HB hb; have n2_ := Aside0.mk (hbox); have n3_ := gx hg HB; have n4_ := gx hg HB; have n5_ := nl hg BK151; have n6_ := nr hg BK151; clear BK151; clear HB; have BK151 := n0_; have HB := n1_; have BK152 := n2_; have GW152 := n3_; have GE152 := n4_; have NB151_152 := n5_; have NB152_151 := n6_; clear n0_ n1_ n2_ n3_ n4_ n5_ n6_; clear hb hbox hg) | ((with_reducible refine gate_dst (N := 5) rfl ?_); refine box_event ?hg (N := 5) ?hd (cs := #[.int .i64 a2_0, .int .i64 a2_1, .int .i64 a2_2, .int .i64 a2_3]) (t := 23) ?hr ?_; (case hd => rfl); (case hg => rfl); (case hr => first | (go_simp; done) | (go_simp; rfl)); intro gb153 hg w186 hbox hb; have n0_ := kb BK151 hb; have n1_ := kb BK152 hb; have n2_ := bt HB hb; have n3_ := Aside0.mk (hbox); have n4_ := gx hg HB; have n5_ := gx hg HB; have n6_ := nl hg BK151; have n7_ := nr hg BK151; have n8_ := nl hg BK152; have n9_ := nr hg BK152; clear BK151; clear BK152; clear HB; have BK151 := n0_; have BK152 := n1_; have HB := n2_; have BK153 := n3_; have GW153 := n4_; have GE153 := n5_; have NB151_153 := n6_; have NB153_151 := n7_; have NB152_153 := n8_; have NB153_152 := n9_; clear n0_ n1_ n2_ n3_ n4_ n5_ n6_ n7_ n8_ n9_; clear hb hbox hg; have hnb187 := NB151_152.out; have hnc187 := NB152_151.out; have hnb188 := NB151_153.out; have hnc188 := NB153_151.out; obtain ⟨hcz189_0, hcz189_1, hcz189_2, hcz189_3, hfz189_0, hfz189_1, hfz189_2, hfz189_3⟩ := cz4 BK151; have hnb190 := NB152_153.out; have hnc190 := NB153_152.out; obtain ⟨hcz191_0, hcz191_1, hcz191_2, hcz191_3, hfz191_0, hfz191_1, hfz191_2, hfz191_3⟩ := cz4 BK152; obtain ⟨hcz192_0, hcz192_1, hcz192_2, hcz192_3, hfz192_0, hfz192_1, hfz192_2, hfz192_3⟩ := cz4 BK153) | ((with_reducible refine gate_callee (f := 169) rfl ?_); refine gL 14 Try.func169 #[.agg #[.int .i64 a0_0, .int .i64 a0_1, .int .i64 a0_2, .int .i64 a0_3], .agg #[.int .i64 a1_0, .int .i64 a1_1, .int .i64 a1_2, .int .i64 a1_3], .agg #[.int .i64 a2_0, .int .i64 a2_1, .int .i64 a2_2, .int .i64 a2_3]] ?_; (with_reducible refine (spec_l4Det3.calls a0_0 a0_1 a0_2 a0_3 a1_0 a1_1 a1_2 a1_3 a2_0 a2_1 a2_2 a2_3 t154 _ A4.out).mono ?_); rintro e w193 ⟨rfl, hb⟩; refine ⟨_, rfl, ?_⟩; have n0_ := kb BK151 hb; have n1_ := kb BK152 hb; have n2_ := kb BK153 hb; have n3_ := bt HB hb; clear BK151; clear BK152; clear BK153; clear HB; have BK151 := n0_; have BK152 := n1_; have BK153 := n2_; have HB := n3_; clear n0_ n1_ n2_ n3_; (try clear hb); (try clear hb2); (try clear hk); (try clear hi)))
  go_ret
  exact fin HB

end Go.Proofs.Ytndedincanmaeaa.Print
