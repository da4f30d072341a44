-- Printed by a program of the session (mkprinter.py, over the kit's print); Lean checks it.
import Derived.Test.YtndedincanmaeaaCp
import Derived.Test.YtndedincanmaeaaPrint0
import Derived.Test.YtndedincanmaeaaPrint5
import Derived.Test.YtndedincanmaeaaPrint6
namespace Go.Proofs.Ytndedincanmaeaa.Print
open Go.RowKit Go.Proofs.YtndedincanmaeaaW.PrintWords Go.Proofs.YtndedincanmaeaaW.PrintLast Go.Proofs.Ytndedincanmaeaa.Cp
set_option linter.unusedVariables false
set_option linter.unusedSimpArgs false

/-! ### spec_l6Clash3: function 162 -/
mutual
def spec_l6Clash3.l0 : Nat → Int → Int → Int → Int → Int → Int → Int → Int → Int → Int → Int → Int → Int → Int → Int → Int → Int → Int → Int → Int → Int → Int → Option (Bool)
 | 0, _, _, _, _, _, _, _, _, _, _, _, _, _, _, _, _, _, _, _, _, _, _ => none
 | k + 1, x10, x152000, x152001, x152002, x152003, x153000, x153001, x153002, x153003, x154000, x154001, x154002, x154003, x159000, x159001, x159002, x163000, x163001, x163002, x167000, x167001, x167002 => if x10 < 3 then (if x10 = 0 then (if x159000 = 0 then (if x163000 = 0 then (spec_l6Clash3.j1 k x10 (x167000 != 0) x152000 x152001 x152002 x152003 x153000 x153001 x153002 x153003 x154000 x154001 x154002 x154003 x159000 x159001 x159002 x163000 x163001 x163002 x167000 x167001 x167002) else (spec_l6Clash3.j1 k x10 true x152000 x152001 x152002 x152003 x153000 x153001 x153002 x153003 x154000 x154001 x154002 x154003 x159000 x159001 x159002 x163000 x163001 x163002 x167000 x167001 x167002)) else (spec_l6Clash3.j1 k x10 true x152000 x152001 x152002 x152003 x153000 x153001 x153002 x153003 x154000 x154001 x154002 x154003 x159000 x159001 x159002 x163000 x163001 x163002 x167000 x167001 x167002)) else (if x10 = 1 then (if x159001 = 0 then (if x163001 = 0 then (spec_l6Clash3.j1 k x10 (x167001 != 0) x152000 x152001 x152002 x152003 x153000 x153001 x153002 x153003 x154000 x154001 x154002 x154003 x159000 x159001 x159002 x163000 x163001 x163002 x167000 x167001 x167002) else (spec_l6Clash3.j1 k x10 true x152000 x152001 x152002 x152003 x153000 x153001 x153002 x153003 x154000 x154001 x154002 x154003 x159000 x159001 x159002 x163000 x163001 x163002 x167000 x167001 x167002)) else (spec_l6Clash3.j1 k x10 true x152000 x152001 x152002 x152003 x153000 x153001 x153002 x153003 x154000 x154001 x154002 x154003 x159000 x159001 x159002 x163000 x163001 x163002 x167000 x167001 x167002)) else (if x10 = 2 then (if x159002 = 0 then (if x163002 = 0 then (spec_l6Clash3.j1 k x10 (x167002 != 0) x152000 x152001 x152002 x152003 x153000 x153001 x153002 x153003 x154000 x154001 x154002 x154003 x159000 x159001 x159002 x163000 x163001 x163002 x167000 x167001 x167002) else (spec_l6Clash3.j1 k x10 true x152000 x152001 x152002 x152003 x153000 x153001 x153002 x153003 x154000 x154001 x154002 x154003 x159000 x159001 x159002 x163000 x163001 x163002 x167000 x167001 x167002)) else (spec_l6Clash3.j1 k x10 true x152000 x152001 x152002 x152003 x153000 x153001 x153002 x153003 x154000 x154001 x154002 x154003 x159000 x159001 x159002 x163000 x163001 x163002 x167000 x167001 x167002)) else (none)))) else (some false)
def spec_l6Clash3.j1 : Nat → Int → Bool → Int → Int → Int → Int → Int → Int → Int → Int → Int → Int → Int → Int → Int → Int → Int → Int → Int → Int → Int → Int → Int → Option (Bool)
 | 0, _, _, _, _, _, _, _, _, _, _, _, _, _, _, _, _, _, _, _, _, _, _, _ => none
 | k + 1, x10, x44, x152000, x152001, x152002, x152003, x153000, x153001, x153002, x153003, x154000, x154001, x154002, x154003, x159000, x159001, x159002, x163000, x163001, x163002, x167000, x167001, x167002 => if x44 = true then (if x10 = 0 then ((spec_l6Sum.f k (([x159000, x163000, x167000] : List Int)) (([x152003, x153003, x154003] : List Int))).bind fun t173 => (some t173)) else (if x10 = 1 then ((spec_l6Sum.f k (([x159001, x163001, x167001] : List Int)) (([x152003, x153003, x154003] : List Int))).bind fun t180 => (some t180)) else (if x10 = 2 then ((spec_l6Sum.f k (([x159002, x163002, x167002] : List Int)) (([x152003, x153003, x154003] : List Int))).bind fun t187 => (some t187)) else (none)))) else (spec_l6Clash3.l0 k (wrap64 (x10 + 1)) x152000 x152001 x152002 x152003 x153000 x153001 x153002 x153003 x154000 x154001 x154002 x154003 x159000 x159001 x159002 x163000 x163001 x163002 x167000 x167001 x167002)
end
def spec_l6Clash3.f (k : Nat) (a0_0 : Int) (a0_1 : Int) (a0_2 : Int) (a0_3 : Int) (a1_0 : Int) (a1_1 : Int) (a1_2 : Int) (a1_3 : Int) (a2_0 : Int) (a2_1 : Int) (a2_2 : Int) (a2_3 : Int) : Option (Bool) := (spec_l4Det3.f a0_0 a0_1 a0_2 a0_3 a1_0 a1_1 a1_2 a1_3 a2_0 a2_1 a2_2 a2_3).bind fun t154 => (if t154 = 0 then ((spec_l4Cross.f a1_0 a1_1 a1_2 a1_3 a2_0 a2_1 a2_2 a2_3).bind fun bt155 => ((spec_l4Cross.f a2_0 a2_1 a2_2 a2_3 a0_0 a0_1 a0_2 a0_3).bind fun bt159 => ((spec_l4Cross.f a0_0 a0_1 a0_2 a0_3 a1_0 a1_1 a1_2 a1_3).bind fun bt163 => (spec_l6Clash3.l0 k 0 a0_0 a0_1 a0_2 a0_3 a1_0 a1_1 a1_2 a1_3 a2_0 a2_1 a2_2 a2_3 bt155.1 bt155.2.1 bt155.2.2 bt159.1 bt159.2.1 bt159.2.2 bt163.1 bt163.2.1 bt163.2.2)))) else (some false))
theorem spec_l6Clash3.mono_l : ∀ k, (∀ y0 y1 y2 y3 y4 y5 y6 y7 y8 y9 y10 y11 y12 y13 y14 y15 y16 y17 y18 y19 y20 y21, LeO (spec_l6Clash3.l0 k y0 y1 y2 y3 y4 y5 y6 y7 y8 y9 y10 y11 y12 y13 y14 y15 y16 y17 y18 y19 y20 y21) (spec_l6Clash3.l0 (k + 1) y0 y1 y2 y3 y4 y5 y6 y7 y8 y9 y10 y11 y12 y13 y14 y15 y16 y17 y18 y19 y20 y21)) ∧ (∀ y0 y1 y2 y3 y4 y5 y6 y7 y8 y9 y10 y11 y12 y13 y14 y15 y16 y17 y18 y19 y20 y21 y22, LeO (spec_l6Clash3.j1 k y0 y1 y2 y3 y4 y5 y6 y7 y8 y9 y10 y11 y12 y13 y14 y15 y16 y17 y18 y19 y20 y21 y22) (spec_l6Clash3.j1 (k + 1) y0 y1 y2 y3 y4 y5 y6 y7 y8 y9 y10 y11 y12 y13 y14 y15 y16 y17 y18 y19 y20 y21 y22))
 | 0 => ⟨fun _ _ _ _ _ _ _ _ _ _ _ _ _ _ _ _ _ _ _ _ _ _ r h => by simp [spec_l6Clash3.l0] at h, fun _ _ _ _ _ _ _ _ _ _ _ _ _ _ _ _ _ _ _ _ _ _ _ r h => by simp [spec_l6Clash3.j1] at h⟩
 | k + 1 => by
  obtain ⟨ih0, ih1⟩ := spec_l6Clash3.mono_l k
  refine ⟨?_, ?_⟩
  ·intro y0 y1 y2 y3 y4 y5 y6 y7 y8 y9 y10 y11 y12 y13 y14 y15 y16 y17 y18 y19 y20 y21
   unfold spec_l6Clash3.l0
   repeat' first
   | (with_reducible exact ih0 _ _ _ _ _ _ _ _ _ _ _ _ _ _ _ _ _ _ _ _ _ _)
   | (with_reducible exact ih1 _ _ _ _ _ _ _ _ _ _ _ _ _ _ _ _ _ _ _ _ _ _ _)
   | (with_reducible exact spec_l6Sum.mono _ _ _)
   | (with_reducible exact LeO.refl _)
   | (with_reducible exact LeO.none _)
   | (with_reducible refine LeO.ite ?_ ?_)
   | (with_reducible refine LeO.bind ?_ (fun _ => ?_))
   | exact ih0 _ _ _ _ _ _ _ _ _ _ _ _ _ _ _ _ _ _ _ _ _ _
   | exact ih1 _ _ _ _ _ _ _ _ _ _ _ _ _ _ _ _ _ _ _ _ _ _ _
   | exact spec_l6Sum.mono _ _ _
   | exact LeO.none _
   | refine LeO.ite ?_ ?_
   | refine LeO.bind ?_ (fun _ => ?_)
  intro y0 y1 y2 y3 y4 y5 y6 y7 y8 y9 y10 y11 y12 y13 y14 y15 y16 y17 y18 y19 y20 y21 y22
  unfold spec_l6Clash3.j1
  repeat' first
  | (with_reducible exact ih0 _ _ _ _ _ _ _ _ _ _ _ _ _ _ _ _ _ _ _ _ _ _)
  | (with_reducible exact ih1 _ _ _ _ _ _ _ _ _ _ _ _ _ _ _ _ _ _ _ _ _ _ _)
  | (with_reducible exact spec_l6Sum.mono _ _ _)
  | (with_reducible exact LeO.refl _)
  | (with_reducible exact LeO.none _)
  | (with_reducible refine LeO.ite ?_ ?_)
  | (with_reducible refine LeO.bind ?_ (fun _ => ?_))
  | exact ih0 _ _ _ _ _ _ _ _ _ _ _ _ _ _ _ _ _ _ _ _ _ _
  | exact ih1 _ _ _ _ _ _ _ _ _ _ _ _ _ _ _ _ _ _ _ _ _ _ _
  | exact spec_l6Sum.mono _ _ _
  | exact LeO.none _
  | refine LeO.ite ?_ ?_
  | refine LeO.bind ?_ (fun _ => ?_)
theorem spec_l6Clash3.mono : ∀ a0 a1 a2 a3 a4 a5 a6 a7 a8 a9 a10 a11 k, LeO (spec_l6Clash3.f k a0 a1 a2 a3 a4 a5 a6 a7 a8 a9 a10 a11) (spec_l6Clash3.f (k + 1) a0 a1 a2 a3 a4 a5 a6 a7 a8 a9 a10 a11) := by
 intro a0 a1 a2 a3 a4 a5 a6 a7 a8 a9 a10 a11 k
 obtain ⟨ih0, ih1⟩ := spec_l6Clash3.mono_l k
 unfold spec_l6Clash3.f
 repeat' first
   | (with_reducible exact ih0 _ _ _ _ _ _ _ _ _ _ _ _ _ _ _ _ _ _ _ _ _ _)
   | (with_reducible exact ih1 _ _ _ _ _ _ _ _ _ _ _ _ _ _ _ _ _ _ _ _ _ _ _)
   | (with_reducible exact spec_l6Sum.mono _ _ _)
   | (with_reducible exact LeO.refl _)
   | (with_reducible exact LeO.none _)
   | (with_reducible refine LeO.ite ?_ ?_)
   | (with_reducible refine LeO.bind ?_ (fun _ => ?_))
   | exact ih0 _ _ _ _ _ _ _ _ _ _ _ _ _ _ _ _ _ _ _ _ _ _
   | exact ih1 _ _ _ _ _ _ _ _ _ _ _ _ _ _ _ _ _ _ _ _ _ _ _
   | exact spec_l6Sum.mono _ _ _
   | exact LeO.none _
   | refine LeO.ite ?_ ?_
   | refine LeO.bind ?_ (fun _ => ?_)
def spec_l6Clash3.T10 : Bool × List (List Nat × List Nat) := (true, [([], []), ([0], [0]), ([1], [1]), ([], []), ([3], [3]), ([4], [4]), ([], []), ([6], [6]), ([7], [7]), ([2, 5, 8], [2, 5, 8]), ([], []), ([10], [10]), ([], []), ([12], [12]), ([], []), ([14], [14]), ([11, 13, 15], [11, 13, 15]), ([9, 16], [9, 16]), ([17, 17, 0, 1, 2, 3, 4, 5, 6, 7, 8, 9, 10, 11, 12, 13, 14, 15, 16, 17], [17])])
def spec_l6Clash3.B10 : List Nat := [0, 1, 3, 0, 8, 24, 0, 64, 192, 511, 0, 1024, 0, 4096, 0, 16384, 64512, 131071, 262143]
theorem spec_l6Clash3.tab10 : rtab .any (opsOf Try.f162 10) = spec_l6Clash3.T10 := by kernel_rfl
theorem spec_l6Clash3.bits10 : waitsOk spec_l6Clash3.T10.2 spec_l6Clash3.B10 = true := by kernel_rfl
set_option maxHeartbeats 8000000 in
set_option maxRecDepth 100000 in
theorem spec_l6Clash3.calls (k : Nat) (a0_0 : Int) (a0_1 : Int) (a0_2 : Int) (a0_3 : Int) (a1_0 : Int) (a1_1 : Int) (a1_2 : Int) (a1_3 : Int) (a2_0 : Int) (a2_1 : Int) (a2_2 : Int) (a2_3 : Int) (r : Bool) (w : World) (h : spec_l6Clash3.f k a0_0 a0_1 a0_2 a0_3 a1_0 a1_1 a1_2 a1_3 a2_0 a2_1 a2_2 a2_3 = some r) :
  Calls Try.prog 162 #[.agg #[.int .i64 a0_0, .int .i64 a0_1, .int .i64 a0_2, .int .i64 a0_3], .agg #[.int .i64 a1_0, .int .i64 a1_1, .int .i64 a1_2, .int .i64 a1_3], .agg #[.int .i64 a2_0, .int .i64 a2_1, .int .i64 a2_2, .int .i64 a2_3]] w fun e w' => e = .returned (.bool r) ∧ Below w.heap.size w w' := by
 have hu23 := Try.underlying23
 have hu128 := Try.underlying128
 have HB := Aside0.mk (Below.refl w.heap.size w)
 have H : ((spec_l4Det3.f a0_0 a0_1 a0_2 a0_3 a1_0 a1_1 a1_2 a1_3 a2_0 a2_1 a2_2 a2_3).bind fun t154 => (if t154 = 0 then ((spec_l4Cross.f a1_0 a1_1 a1_2 a1_3 a2_0 a2_1 a2_2 a2_3).bind fun bt155 => ((spec_l4Cross.f a2_0 a2_1 a2_2 a2_3 a0_0 a0_1 a0_2 a0_3).bind fun bt159 => ((spec_l4Cross.f a0_0 a0_1 a0_2 a0_3 a1_0 a1_1 a1_2 a1_3).bind fun bt163 => (spec_l6Clash3.l0 k 0 a0_0 a0_1 a0_2 a0_3 a1_0 a1_1 a1_2 a1_3 a2_0 a2_1 a2_2 a2_3 bt155.1 bt155.2.1 bt155.2.2 bt159.1 bt159.2.1 bt159.2.2 bt163.1 bt163.2.1 bt163.2.2)))) else (some false))) = some r := h
 clear h
 obtain ⟨t154, A4, H⟩ := bi H
 by_cases c5 : t154 = 0
 ·rw [if_pos c5] at H
  have c5b0 : (t154 == 0) = true := beq_iff_eq.mpr c5
  have c5b1 : (t154 != 0) = false := bne_eq_false_iff_eq.mpr c5
  clear c5
  obtain ⟨⟨t155, t156, t157⟩, A6, H⟩ := bi H
  dsimp only at H
  obtain ⟨⟨t159, t160, t161⟩, A7, H⟩ := bi H
  dsimp only at H
  obtain ⟨⟨t163, t164, t165⟩, A8, H⟩ := bi H
  dsimp only at H
  have H' := Aside0.mk H
  clear H
  go_enter Try.func162, Try.ntmps162
  go_wp2_with (first | ((with_reducible refine gate_dst (N := 3) rfl ?_); refine box_event ?hg (N := 3) ?hd (cs := #[.int .i64 a0_0, .int .i64 a0_1, .int .i64 a0_2, .int .i64 a0_3]) (t := 23) ?hr ?_; (case hd => rfl); (case hg => rfl); (case hr => first | (go_simp; done) | (go_simp; rfl)); intro g1 hg w9 hbox hb; have bK1 := Aside0.mk (hbox); have bW1 := gx hg HB; have bE1 := gx hg HB; replace HB := bt HB hb; clear hb hbox hg) | ((with_reducible refine gate_dst (N := 4) rfl ?_); refine box_event ?hg (N := 4) ?hd (cs := #[.int .i64 a1_0, .int .i64 a1_1, .int .i64 a1_2, .int .i64 a1_3]) (t := 23) ?hr ?_; (case hd => rfl); (case hg => rfl); (case hr => first | (go_simp; done) | (go_simp; rfl)); intro g2 hg w10 hbox hb; have n0_ := kb bK1 hb; have n1_ := bt HB hb; have n2_ := Aside0.mk (hbox); have n3_ := gx hg HB; have n4_ := gx hg HB; have n5_ := nl hg bK1; have n6_ := nr hg bK1; clear bK1; clear HB; have bK1 := n0_; have HB := n1_; have bK2 := n2_; have bW2 := n3_; have bE2 := n4_; have bN1_2 := n5_; have bN2_1 := n6_; clear n0_ n1_ n2_ n3_ n4_ n5_ n6_; clear hb hbox hg) | ((with_reducible refine gate_dst (N := 5) rfl ?_); refine box_event ?hg (N := 5) ?hd (cs := #[.int .i64 a2_0, .int .i64 a2_1, .int .i64 a2_2, .int .i64 a2_3]) (t := 23) ?hr ?_; (case hd => rfl); (case hg => rfl); (case hr => first | (go_simp; done) | (go_simp; rfl)); intro g3 hg w11 hbox hb; have n0_ := kb bK1 hb; have n1_ := kb bK2 hb; have n2_ := bt HB hb; have n3_ := Aside0.mk (hbox); have n4_ := gx hg HB; have n5_ := gx hg HB; have n6_ := nl hg bK1; have n7_ := nr hg bK1; have n8_ := nl hg bK2; have n9_ := nr hg bK2; clear bK1; clear bK2; clear HB; have bK1 := n0_; have bK2 := n1_; have HB := n2_; have bK3 := n3_; have bW3 := n4_; have bE3 := n5_; have bN1_3 := n6_; have bN3_1 := n7_; have bN2_3 := n8_; have bN3_2 := n9_; clear n0_ n1_ n2_ n3_ n4_ n5_ n6_ n7_ n8_ n9_; clear hb hbox hg; have hnb12 := bN1_2.out; have hnc12 := bN2_1.out; have hnb13 := bN1_3.out; have hnc13 := bN3_1.out; obtain ⟨hcz14_0, hcz14_1, hcz14_2, hcz14_3, hfz14_0, hfz14_1, hfz14_2, hfz14_3⟩ := cz4 bK1; have hnb15 := bN2_3.out; have hnc15 := bN3_2.out; obtain ⟨hcz16_0, hcz16_1, hcz16_2, hcz16_3, hfz16_0, hfz16_1, hfz16_2, hfz16_3⟩ := cz4 bK2; obtain ⟨hcz17_0, hcz17_1, hcz17_2, hcz17_3, hfz17_0, hfz17_1, hfz17_2, hfz17_3⟩ := cz4 bK3) | ((with_reducible refine gate_callee (f := 169) rfl ?_); refine gL 14 Try.func169 #[.agg #[.int .i64 a0_0, .int .i64 a0_1, .int .i64 a0_2, .int .i64 a0_3], .agg #[.int .i64 a1_0, .int .i64 a1_1, .int .i64 a1_2, .int .i64 a1_3], .agg #[.int .i64 a2_0, .int .i64 a2_1, .int .i64 a2_2, .int .i64 a2_3]] ?_; (with_reducible refine (spec_l4Det3.calls a0_0 a0_1 a0_2 a0_3 a1_0 a1_1 a1_2 a1_3 a2_0 a2_1 a2_2 a2_3 t154 _ A4.out).mono ?_); rintro e w18 ⟨rfl, hb⟩; refine ⟨_, rfl, ?_⟩; replace bK1 := kb bK1 hb; replace bK2 := kb bK2 hb; replace bK3 := kb bK3 hb; replace HB := bt HB hb; (try clear hb); (try clear hb2); (try clear hk); (try clear hi); obtain ⟨hcz19_0, hcz19_1, hcz19_2, hcz19_3, hfz19_0, hfz19_1, hfz19_2, hfz19_3⟩ := cz4 bK2; obtain ⟨hcz20_0, hcz20_1, hcz20_2, hcz20_3, hfz20_0, hfz20_1, hfz20_2, hfz20_3⟩ := cz4 bK3) | ((with_reducible refine gate_callee (f := 145) rfl ?_); refine gL 18 Try.func145 #[.agg #[.int .i64 a1_0, .int .i64 a1_1, .int .i64 a1_2, .int .i64 a1_3], .agg #[.int .i64 a2_0, .int .i64 a2_1, .int .i64 a2_2, .int .i64 a2_3]] ?_; (with_reducible refine (spec_l4Cross.calls a1_0 a1_1 a1_2 a1_3 a2_0 a2_1 a2_2 a2_3 t155 t156 t157 _ A6.out).mono ?_); rintro e w21 ⟨rfl, hb⟩; refine ⟨_, rfl, ?_⟩; replace bK1 := kb bK1 hb; replace bK2 := kb bK2 hb; replace bK3 := kb bK3 hb; replace HB := bt HB hb; (try clear hb); (try clear hb2); (try clear hk); (try clear hi)) | ((with_reducible refine gate_dst (N := 7) rfl ?_); refine box_event ?hg (N := 7) ?hd (cs := #[.int .i64 0, .int .i64 0, .int .i64 0]) (t := 128) ?hr ?_; (case hd => rfl); (case hg => rfl); (case hr => first | (go_simp; done) | (go_simp; rfl)); intro g4 hg w22 hbox hb; have n0_ := kb bK1 hb; have n1_ := kb bK2 hb; have n2_ := kb bK3 hb; have n3_ := bt HB hb; have n4_ := Aside0.mk (hbox); have n5_ := gx hg HB; have n6_ := gx hg HB; have n7_ := nl hg bK1; have n8_ := nr hg bK1; have n9_ := nl hg bK2; have n10_ := nr hg bK2; have n11_ := nl hg bK3; have n12_ := nr hg bK3; clear bK1; clear bK2; clear bK3; clear HB; have bK1 := n0_; have bK2 := n1_; have bK3 := n2_; have HB := n3_; have bK4 := n4_; have bW4 := n5_; have bE4 := n6_; have bN1_4 := n7_; have bN4_1 := n8_; have bN2_4 := n9_; have bN4_2 := n10_; have bN3_4 := n11_; have bN4_3 := n12_; clear n0_ n1_ n2_ n3_ n4_ n5_ n6_ n7_ n8_ n9_ n10_ n11_ n12_; clear hb hbox hg; have hnb23 := bN4_1.out; have hnc23 := bN1_4.out; have hnb24 := bN4_2.out; have hnc24 := bN2_4.out; have hnb25 := bN4_3.out; have hnc25 := bN3_4.out; obtain ⟨hcz26_0, hcz26_1, hcz26_2, hfz26_0, hfz26_1, hfz26_2⟩ := cz3 bK4; obtain ⟨hcz27_0, hcz27_1, hcz27_2, hcz27_3, hfz27_0, hfz27_1, hfz27_2, hfz27_3⟩ := cz4 bK3; obtain ⟨hcz28_0, hcz28_1, hcz28_2, hcz28_3, hfz28_0, hfz28_1, hfz28_2, hfz28_3⟩ := cz4 bK1) | ((with_reducible refine gate_callee (f := 145) rfl ?_); refine gL 21 Try.func145 #[.agg #[.int .i64 a2_0, .int .i64 a2_1, .int .i64 a2_2, .int .i64 a2_3], .agg #[.int .i64 a0_0, .int .i64 a0_1, .int .i64 a0_2, .int .i64 a0_3]] ?_; (with_reducible refine (spec_l4Cross.calls a2_0 a2_1 a2_2 a2_3 a0_0 a0_1 a0_2 a0_3 t159 t160 t161 _ A7.out).mono ?_); rintro e w29 ⟨rfl, hb⟩; refine ⟨_, rfl, ?_⟩; replace bK1 := kf bK1 hb; replace bK2 := kf bK2 hb; replace bK3 := kf bK3 hb; replace bK4 := kp #[.int .i64 t155, .int .i64 t156, .int .i64 t157] bK4 hb; replace HB := bt HB hb; (try clear hb); (try clear hb2); (try clear hk); (try clear hi)) | ((with_reducible refine gate_dst (N := 8) rfl ?_); refine box_event ?hg (N := 8) ?hd (cs := #[.int .i64 0, .int .i64 0, .int .i64 0]) (t := 128) ?hr ?_; (case hd => rfl); (case hg => rfl); (case hr => first | (go_simp; done) | (go_simp; rfl)); intro g5 hg w30 hbox hb; have n0_ := kb bK1 hb; have n1_ := kb bK2 hb; have n2_ := kb bK3 hb; have n3_ := kb bK4 hb; have n4_ := bt HB hb; have n5_ := Aside0.mk (hbox); have n6_ := gx hg HB; have n7_ := gx hg HB; have n8_ := nl hg bK1; have n9_ := nr hg bK1; have n10_ := nl hg bK2; have n11_ := nr hg bK2; have n12_ := nl hg bK3; have n13_ := nr hg bK3; have n14_ := nl hg bK4; have n15_ := nr hg bK4; clear bK1; clear bK2; clear bK3; clear bK4; clear HB; have bK1 := n0_; have bK2 := n1_; have bK3 := n2_; have bK4 := n3_; have HB := n4_; have bK5 := n5_; have bW5 := n6_; have bE5 := n7_; have bN1_5 := n8_; have bN5_1 := n9_; have bN2_5 := n10_; have bN5_2 := n11_; have bN3_5 := n12_; have bN5_3 := n13_; have bN4_5 := n14_; have bN5_4 := n15_; clear n0_ n1_ n2_ n3_ n4_ n5_ n6_ n7_ n8_ n9_ n10_ n11_ n12_ n13_ n14_ n15_; clear hb hbox hg; have hnb31 := bN5_1.out; have hnc31 := bN1_5.out; have hnb32 := bN5_2.out; have hnc32 := bN2_5.out; have hnb33 := bN5_3.out; have hnc33 := bN3_5.out; have hnb34 := bN5_4.out; have hnc34 := bN4_5.out; obtain ⟨hcz35_0, hcz35_1, hcz35_2, hfz35_0, hfz35_1, hfz35_2⟩ := cz3 bK5; obtain ⟨hcz36_0, hcz36_1, hcz36_2, hcz36_3, hfz36_0, hfz36_1, hfz36_2, hfz36_3⟩ := cz4 bK1; obtain ⟨hcz37_0, hcz37_1, hcz37_2, hcz37_3, hfz37_0, hfz37_1, hfz37_2, hfz37_3⟩ := cz4 bK2) | ((with_reducible refine gate_callee (f := 145) rfl ?_); refine gL 24 Try.func145 #[.agg #[.int .i64 a0_0, .int .i64 a0_1, .int .i64 a0_2, .int .i64 a0_3], .agg #[.int .i64 a1_0, .int .i64 a1_1, .int .i64 a1_2, .int .i64 a1_3]] ?_; (with_reducible refine (spec_l4Cross.calls a0_0 a0_1 a0_2 a0_3 a1_0 a1_1 a1_2 a1_3 t163 t164 t165 _ A8.out).mono ?_); rintro e w38 ⟨rfl, hb⟩; refine ⟨_, rfl, ?_⟩; replace bK1 := kf bK1 hb; replace bK2 := kf bK2 hb; replace bK3 := kf bK3 hb; replace bK4 := kf bK4 hb; replace bK5 := kp #[.int .i64 t159, .int .i64 t160, .int .i64 t161] bK5 hb; replace HB := bt HB hb; (try clear hb); (try clear hb2); (try clear hk); (try clear hi)) | ((with_reducible refine gate_dst (N := 9) rfl ?_); refine box_event ?hg (N := 9) ?hd (cs := #[.int .i64 0, .int .i64 0, .int .i64 0]) (t := 128) ?hr ?_; (case hd => rfl); (case hg => rfl); (case hr => first | (go_simp; done) | (go_simp; rfl)); intro g6 hg w39 hbox hb; have n0_ := kb bK1 hb; have n1_ := kb bK2 hb; have n2_ := kb bK3 hb; have n3_ := kb bK4 hb; have n4_ := kb bK5 hb; have n5_ := bt HB hb; have n6_ := Aside0.mk (hbox); have n7_ := gx hg HB; have n8_ := gx hg HB; have n9_ := nl hg bK1; have n10_ := nr hg bK1; have n11_ := nl hg bK2; have n12_ := nr hg bK2; have n13_ := nl hg bK3; have n14_ := nr hg bK3; have n15_ := nl hg bK4; have n16_ := nr hg bK4; have n17_ := nl hg bK5; have n18_ := nr hg bK5; clear bK1; clear bK2; clear bK3; clear bK4; clear bK5; clear HB; have bK1 := n0_; have bK2 := n1_; have bK3 := n2_; have bK4 := n3_; have bK5 := n4_; have HB := n5_; have bK6 := n6_; have bW6 := n7_; have bE6 := n8_; have bN1_6 := n9_; have bN6_1 := n10_; have bN2_6 := n11_; have bN6_2 := n12_; have bN3_6 := n13_; have bN6_3 := n14_; have bN4_6 := n15_; have bN6_4 := n16_; have bN5_6 := n17_; have bN6_5 := n18_; clear n0_ n1_ n2_ n3_ n4_ n5_ n6_ n7_ n8_ n9_ n10_ n11_ n12_ n13_ n14_ n15_ n16_ n17_ n18_; clear hb hbox hg; have hnb40 := bN6_1.out; have hnc40 := bN1_6.out; have hnb41 := bN6_2.out; have hnc41 := bN2_6.out; have hnb42 := bN6_3.out; have hnc42 := bN3_6.out; have hnb43 := bN6_4.out; have hnc43 := bN4_6.out; have hnb44 := bN6_5.out; have hnc44 := bN5_6.out; obtain ⟨hcz45_0, hcz45_1, hcz45_2, hfz45_0, hfz45_1, hfz45_2⟩ := cz3 bK6))
  go_loopg [10] k (fun kq v10 w' => ∃ (x10_1 : Int), v10 = .int .i64 x10_1 ∧ Aside0 (spec_l6Clash3.l0 kq x10_1 a0_0 a0_1 a0_2 a0_3 a1_0 a1_1 a1_2 a1_3 a2_0 a2_1 a2_2 a2_3 t155 t156 t157 t159 t160 t161 t163 t164 t165 = some r) ∧ Aside0 (kq ≤ k) ∧ Aside0 (w'.heap[g1]? = some (.cells #[.int .i64 a0_0, .int .i64 a0_1, .int .i64 a0_2, .int .i64 a0_3] 23 (0, 0))) ∧ Aside0 (w'.heap[g2]? = some (.cells #[.int .i64 a1_0, .int .i64 a1_1, .int .i64 a1_2, .int .i64 a1_3] 23 (0, 0))) ∧ Aside0 (w'.heap[g3]? = some (.cells #[.int .i64 a2_0, .int .i64 a2_1, .int .i64 a2_2, .int .i64 a2_3] 23 (0, 0))) ∧ Aside0 (w'.heap[g4]? = some (.cells #[.int .i64 t155, .int .i64 t156, .int .i64 t157] 128 (0, 0))) ∧ Aside0 (w'.heap[g5]? = some (.cells #[.int .i64 t159, .int .i64 t160, .int .i64 t161] 128 (0, 0))) ∧ Aside0 (w'.heap[g6]? = some (.cells #[.int .i64 t163, .int .i64 t164, .int .i64 t165] 128 (0, 0))) ∧ Aside0 (Below w.heap.size w w'))
  case atStart => exact ⟨(0), re, H', ⟨Nat.le_refl _⟩, ⟨by (with_reducible repeat (first | refine blk_drewN ?_ _ | refine blk_drew ?_ | refine blk_alloc ?_ _)); refine blk_far ?_ bN1_6.out _; (with_reducible repeat (first | refine blk_drewN ?_ _ | refine blk_drew ?_ | refine blk_alloc ?_ _)); refine blk_far ?_ bN1_6.out _; (with_reducible repeat (first | refine blk_drewN ?_ _ | refine blk_drew ?_ | refine blk_alloc ?_ _)); refine blk_far ?_ bN1_6.out _; (with_reducible repeat (first | refine blk_drewN ?_ _ | refine blk_drew ?_ | refine blk_alloc ?_ _)); exact bK1.out⟩, ⟨by (with_reducible repeat (first | refine blk_drewN ?_ _ | refine blk_drew ?_ | refine blk_alloc ?_ _)); refine blk_far ?_ bN2_6.out _; (with_reducible repeat (first | refine blk_drewN ?_ _ | refine blk_drew ?_ | refine blk_alloc ?_ _)); refine blk_far ?_ bN2_6.out _; (with_reducible repeat (first | refine blk_drewN ?_ _ | refine blk_drew ?_ | refine blk_alloc ?_ _)); refine blk_far ?_ bN2_6.out _; (with_reducible repeat (first | refine blk_drewN ?_ _ | refine blk_drew ?_ | refine blk_alloc ?_ _)); exact bK2.out⟩, ⟨by (with_reducible repeat (first | refine blk_drewN ?_ _ | refine blk_drew ?_ | refine blk_alloc ?_ _)); refine blk_far ?_ bN3_6.out _; (with_reducible repeat (first | refine blk_drewN ?_ _ | refine blk_drew ?_ | refine blk_alloc ?_ _)); refine blk_far ?_ bN3_6.out _; (with_reducible repeat (first | refine blk_drewN ?_ _ | refine blk_drew ?_ | refine blk_alloc ?_ _)); refine blk_far ?_ bN3_6.out _; (with_reducible repeat (first | refine blk_drewN ?_ _ | refine blk_drew ?_ | refine blk_alloc ?_ _)); exact bK3.out⟩, ⟨by (with_reducible repeat (first | refine blk_drewN ?_ _ | refine blk_drew ?_ | refine blk_alloc ?_ _)); refine blk_far ?_ bN4_6.out _; (with_reducible repeat (first | refine blk_drewN ?_ _ | refine blk_drew ?_ | refine blk_alloc ?_ _)); refine blk_far ?_ bN4_6.out _; (with_reducible repeat (first | refine blk_drewN ?_ _ | refine blk_drew ?_ | refine blk_alloc ?_ _)); refine blk_far ?_ bN4_6.out _; (with_reducible repeat (first | refine blk_drewN ?_ _ | refine blk_drew ?_ | refine blk_alloc ?_ _)); exact bK4.out⟩, ⟨by (with_reducible repeat (first | refine blk_drewN ?_ _ | refine blk_drew ?_ | refine blk_alloc ?_ _)); refine blk_far ?_ bN5_6.out _; (with_reducible repeat (first | refine blk_drewN ?_ _ | refine blk_drew ?_ | refine blk_alloc ?_ _)); refine blk_far ?_ bN5_6.out _; (with_reducible repeat (first | refine blk_drewN ?_ _ | refine blk_drew ?_ | refine blk_alloc ?_ _)); refine blk_far ?_ bN5_6.out _; (with_reducible repeat (first | refine blk_drewN ?_ _ | refine blk_drew ?_ | refine blk_alloc ?_ _)); exact bK5.out⟩, ⟨by (with_reducible repeat (first | refine blk_drewN ?_ _ | refine blk_drew ?_ | refine blk_alloc ?_ _)); refine blk_put (cs := #[.int .i64 t163, .int .i64 t164, .int .i64 0]) ?_ 2 _ rfl; (with_reducible repeat (first | refine blk_drewN ?_ _ | refine blk_drew ?_ | refine blk_alloc ?_ _)); refine blk_put (cs := #[.int .i64 t163, .int .i64 0, .int .i64 0]) ?_ 1 _ rfl; (with_reducible repeat (first | refine blk_drewN ?_ _ | refine blk_drew ?_ | refine blk_alloc ?_ _)); refine blk_put (cs := #[.int .i64 0, .int .i64 0, .int .i64 0]) ?_ 0 _ rfl; (with_reducible repeat (first | refine blk_drewN ?_ _ | refine blk_drew ?_ | refine blk_alloc ?_ _)); exact bK6.out⟩, ⟨by repeat (first | (with_reducible first | exact HB.out | apply below_alloc | apply pw_below_drewN | apply below_drew1 | refine below_set ?_ bE1.out | refine below_set ?_ bE2.out | refine below_set ?_ bE3.out | refine below_set ?_ bE4.out | refine below_set ?_ bE5.out | refine below_set ?_ bE6.out) | exact HB.out)⟩⟩
  case round =>
   clear H'
   obtain ⟨x10_1, rfl, HA, HK1, bK1, bK2, bK3, bK4, bK5, bK6, HB⟩ := hrel
   cases gk with
   | zero => exact absurd HA.out (by simp [spec_l6Clash3.l0])
   | succ k1 =>
    have H := HA.out
    clear HA
    simp only [spec_l6Clash3.l0] at H
    by_cases c46 : x10_1 < 3
    ·rw [if_pos c46] at H
     have c46b0 : decide (x10_1 < 3) = true := decide_eq_true c46
     clear c46
     have HC47 := Aside0.mk H
     clear H
     go_upto_region 9 with (fail)
     go_cut [44] (fun v44 wc => ∃ (kq : Nat) (x44_46 : Bool), v44 = .bool x44_46 ∧ Aside0 (spec_l6Clash3.j1 kq x10_1 x44_46 a0_0 a0_1 a0_2 a0_3 a1_0 a1_1 a1_2 a1_3 a2_0 a2_1 a2_2 a2_3 t155 t156 t157 t159 t160 t161 t163 t164 t165 = some r) ∧ Aside0 (kq ≤ k1) ∧ Aside0 (wc.heap[g1]? = some (.cells #[.int .i64 a0_0, .int .i64 a0_1, .int .i64 a0_2, .int .i64 a0_3] 23 (0, 0))) ∧ Aside0 (wc.heap[g2]? = some (.cells #[.int .i64 a1_0, .int .i64 a1_1, .int .i64 a1_2, .int .i64 a1_3] 23 (0, 0))) ∧ Aside0 (wc.heap[g3]? = some (.cells #[.int .i64 a2_0, .int .i64 a2_1, .int .i64 a2_2, .int .i64 a2_3] 23 (0, 0))) ∧ Aside0 (wc.heap[g4]? = some (.cells #[.int .i64 t155, .int .i64 t156, .int .i64 t157] 128 (0, 0))) ∧ Aside0 (wc.heap[g5]? = some (.cells #[.int .i64 t159, .int .i64 t160, .int .i64 t161] 128 (0, 0))) ∧ Aside0 (wc.heap[g6]? = some (.cells #[.int .i64 t163, .int .i64 t164, .int .i64 t165] 128 (0, 0))) ∧ Aside0 (Below w.heap.size w wc))
     case first =>
      have H := HC47.out
      clear HC47
      by_cases c48 : x10_1 = 0
      ·subst c48
       have H1 : (if t155 = 0 then (if t159 = 0 then (spec_l6Clash3.j1 k1 0 (t163 != 0) a0_0 a0_1 a0_2 a0_3 a1_0 a1_1 a1_2 a1_3 a2_0 a2_1 a2_2 a2_3 t155 t156 t157 t159 t160 t161 t163 t164 t165) else (spec_l6Clash3.j1 k1 0 true a0_0 a0_1 a0_2 a0_3 a1_0 a1_1 a1_2 a1_3 a2_0 a2_1 a2_2 a2_3 t155 t156 t157 t159 t160 t161 t163 t164 t165)) else (spec_l6Clash3.j1 k1 0 true a0_0 a0_1 a0_2 a0_3 a1_0 a1_1 a1_2 a1_3 a2_0 a2_1 a2_2 a2_3 t155 t156 t157 t159 t160 t161 t163 t164 t165)) = some r := by rw [if_pos rfl] at H; exact H
       clear H
       have H := H1
       clear H1
       by_cases c49 : t155 = 0
       ·rw [if_pos c49] at H
        have c49b0 : (t155 == 0) = true := beq_iff_eq.mpr c49
        have c49b1 : (t155 != 0) = false := bne_eq_false_iff_eq.mpr c49
        clear c49
        (first | rw [c49b0] | (simp only [i64_w, i32_w]; rw [c49b0]) | skip)
        by_cases c50 : t159 = 0
        ·rw [if_pos c50] at H
         have c50b0 : (t159 == 0) = true := beq_iff_eq.mpr c50
         have c50b1 : (t159 != 0) = false := bne_eq_false_iff_eq.mpr c50
         clear c50
         have H' := Aside0.mk H
         clear H
         have hnb51 := bN4_1.out
         have hnc51 := bN1_4.out
         have hnb52 := bN4_2.out
         have hnc52 := bN2_4.out
         have hnb53 := bN4_3.out
         have hnc53 := bN3_4.out
         have hnb54 := bN4_5.out
         have hnc54 := bN5_4.out
         have hnb55 := bN4_6.out
         have hnc55 := bN6_4.out
         obtain ⟨hcz56_0, hcz56_1, hcz56_2, hfz56_0, hfz56_1, hfz56_2⟩ := cz3 bK4
         have hnb57 := bN5_1.out
         have hnc57 := bN1_5.out
         have hnb58 := bN5_2.out
         have hnc58 := bN2_5.out
         have hnb59 := bN5_3.out
         have hnc59 := bN3_5.out
         have hnb60 := bN5_6.out
         have hnc60 := bN6_5.out
         obtain ⟨hcz61_0, hcz61_1, hcz61_2, hfz61_0, hfz61_1, hfz61_2⟩ := cz3 bK5
         have hnb62 := bN6_1.out
         have hnc62 := bN1_6.out
         have hnb63 := bN6_2.out
         have hnc63 := bN2_6.out
         have hnb64 := bN6_3.out
         have hnc64 := bN3_6.out
         obtain ⟨hcz65_0, hcz65_1, hcz65_2, hfz65_0, hfz65_1, hfz65_2⟩ := cz3 bK6
         go_wp2
         go_meet
         case rel => exact ⟨_, ((t163 != 0)), re, H', ⟨by have := HK1.out; first | omega | exact Nat.le_refl _⟩, ⟨by (with_reducible repeat (first | refine blk_drewN ?_ _ | refine blk_drew ?_ | refine blk_alloc ?_ _)); exact bK1.out⟩, ⟨by (with_reducible repeat (first | refine blk_drewN ?_ _ | refine blk_drew ?_ | refine blk_alloc ?_ _)); exact bK2.out⟩, ⟨by (with_reducible repeat (first | refine blk_drewN ?_ _ | refine blk_drew ?_ | refine blk_alloc ?_ _)); exact bK3.out⟩, ⟨by (with_reducible repeat (first | refine blk_drewN ?_ _ | refine blk_drew ?_ | refine blk_alloc ?_ _)); exact bK4.out⟩, ⟨by (with_reducible repeat (first | refine blk_drewN ?_ _ | refine blk_drew ?_ | refine blk_alloc ?_ _)); exact bK5.out⟩, ⟨by (with_reducible repeat (first | refine blk_drewN ?_ _ | refine blk_drew ?_ | refine blk_alloc ?_ _)); exact bK6.out⟩, ⟨by repeat (first | (with_reducible first | exact HB.out | apply below_alloc | apply pw_below_drewN | apply below_drew1 | refine below_set ?_ bE1.out | refine below_set ?_ bE2.out | refine below_set ?_ bE3.out | refine below_set ?_ bE4.out | refine below_set ?_ bE5.out | refine below_set ?_ bE6.out) | exact HB.out)⟩⟩
        rw [if_neg c50] at H
        have c50b0 : (t159 == 0) = false := beq_eq_false_iff_ne.mpr c50
        have c50b1 : (t159 != 0) = true := bne_iff_ne.mpr c50
        have H' := Aside0.mk H
        clear H
        have hnb66 := bN4_1.out
        have hnc66 := bN1_4.out
        have hnb67 := bN4_2.out
        have hnc67 := bN2_4.out
        have hnb68 := bN4_3.out
        have hnc68 := bN3_4.out
        have hnb69 := bN4_5.out
        have hnc69 := bN5_4.out
        have hnb70 := bN4_6.out
        have hnc70 := bN6_4.out
        obtain ⟨hcz71_0, hcz71_1, hcz71_2, hfz71_0, hfz71_1, hfz71_2⟩ := cz3 bK4
        have hnb72 := bN5_1.out
        have hnc72 := bN1_5.out
        have hnb73 := bN5_2.out
        have hnc73 := bN2_5.out
        have hnb74 := bN5_3.out
        have hnc74 := bN3_5.out
        have hnb75 := bN5_6.out
        have hnc75 := bN6_5.out
        obtain ⟨hcz76_0, hcz76_1, hcz76_2, hfz76_0, hfz76_1, hfz76_2⟩ := cz3 bK5
        go_wp2
        go_meet
        case rel => exact ⟨_, (true), re, H', ⟨by have := HK1.out; first | omega | exact Nat.le_refl _⟩, ⟨by (with_reducible repeat (first | refine blk_drewN ?_ _ | refine blk_drew ?_ | refine blk_alloc ?_ _)); exact bK1.out⟩, ⟨by (with_reducible repeat (first | refine blk_drewN ?_ _ | refine blk_drew ?_ | refine blk_alloc ?_ _)); exact bK2.out⟩, ⟨by (with_reducible repeat (first | refine blk_drewN ?_ _ | refine blk_drew ?_ | refine blk_alloc ?_ _)); exact bK3.out⟩, ⟨by (with_reducible repeat (first | refine blk_drewN ?_ _ | refine blk_drew ?_ | refine blk_alloc ?_ _)); exact bK4.out⟩, ⟨by (with_reducible repeat (first | refine blk_drewN ?_ _ | refine blk_drew ?_ | refine blk_alloc ?_ _)); exact bK5.out⟩, ⟨by (with_reducible repeat (first | refine blk_drewN ?_ _ | refine blk_drew ?_ | refine blk_alloc ?_ _)); exact bK6.out⟩, ⟨by repeat (first | (with_reducible first | exact HB.out | apply below_alloc | apply pw_below_drewN | apply below_drew1 | refine below_set ?_ bE1.out | refine below_set ?_ bE2.out | refine below_set ?_ bE3.out | refine below_set ?_ bE4.out | refine below_set ?_ bE5.out | refine below_set ?_ bE6.out) | exact HB.out)⟩⟩
       rw [if_neg c49] at H
       have c49b0 : (t155 == 0) = false := beq_eq_false_iff_ne.mpr c49
       have c49b1 : (t155 != 0) = true := bne_iff_ne.mpr c49
       (first | rw [c49b0] | (simp only [i64_w, i32_w]; rw [c49b0]) | skip)
       have H' := Aside0.mk H
       clear H
       have hnb77 := bN4_1.out
       have hnc77 := bN1_4.out
       have hnb78 := bN4_2.out
       have hnc78 := bN2_4.out
       have hnb79 := bN4_3.out
       have hnc79 := bN3_4.out
       have hnb80 := bN4_5.out
       have hnc80 := bN5_4.out
       have hnb81 := bN4_6.out
       have hnc81 := bN6_4.out
       obtain ⟨hcz82_0, hcz82_1, hcz82_2, hfz82_0, hfz82_1, hfz82_2⟩ := cz3 bK4
       go_wp2
       go_meet
       case rel => exact ⟨_, (true), re, H', ⟨by have := HK1.out; first | omega | exact Nat.le_refl _⟩, ⟨by (with_reducible repeat (first | refine blk_drewN ?_ _ | refine blk_drew ?_ | refine blk_alloc ?_ _)); exact bK1.out⟩, ⟨by (with_reducible repeat (first | refine blk_drewN ?_ _ | refine blk_drew ?_ | refine blk_alloc ?_ _)); exact bK2.out⟩, ⟨by (with_reducible repeat (first | refine blk_drewN ?_ _ | refine blk_drew ?_ | refine blk_alloc ?_ _)); exact bK3.out⟩, ⟨by (with_reducible repeat (first | refine blk_drewN ?_ _ | refine blk_drew ?_ | refine blk_alloc ?_ _)); exact bK4.out⟩, ⟨by (with_reducible repeat (first | refine blk_drewN ?_ _ | refine blk_drew ?_ | refine blk_alloc ?_ _)); exact bK5.out⟩, ⟨by (with_reducible repeat (first | refine blk_drewN ?_ _ | refine blk_drew ?_ | refine blk_alloc ?_ _)); exact bK6.out⟩, ⟨by repeat (first | (with_reducible first | exact HB.out | apply below_alloc | apply pw_below_drewN | apply below_drew1 | refine below_set ?_ bE1.out | refine below_set ?_ bE2.out | refine below_set ?_ bE3.out | refine below_set ?_ bE4.out | refine below_set ?_ bE5.out | refine below_set ?_ bE6.out) | exact HB.out)⟩⟩
      rw [if_neg c48] at H
      by_cases c83 : x10_1 = 1
      ·subst c83
       have H1 : (if t156 = 0 then (if t160 = 0 then (spec_l6Clash3.j1 k1 1 (t164 != 0) a0_0 a0_1 a0_2 a0_3 a1_0 a1_1 a1_2 a1_3 a2_0 a2_1 a2_2 a2_3 t155 t156 t157 t159 t160 t161 t163 t164 t165) else (spec_l6Clash3.j1 k1 1 true a0_0 a0_1 a0_2 a0_3 a1_0 a1_1 a1_2 a1_3 a2_0 a2_1 a2_2 a2_3 t155 t156 t157 t159 t160 t161 t163 t164 t165)) else (spec_l6Clash3.j1 k1 1 true a0_0 a0_1 a0_2 a0_3 a1_0 a1_1 a1_2 a1_3 a2_0 a2_1 a2_2 a2_3 t155 t156 t157 t159 t160 t161 t163 t164 t165)) = some r := by rw [if_pos rfl] at H; exact H
       clear H
       have H := H1
       clear H1
       by_cases c84 : t156 = 0
       ·rw [if_pos c84] at H
        have c84b0 : (t156 == 0) = true := beq_iff_eq.mpr c84
        have c84b1 : (t156 != 0) = false := bne_eq_false_iff_eq.mpr c84
        clear c84
        by_cases c85 : t160 = 0
        ·rw [if_pos c85] at H
         have c85b0 : (t160 == 0) = true := beq_iff_eq.mpr c85
         have c85b1 : (t160 != 0) = false := bne_eq_false_iff_eq.mpr c85
         clear c85
         have H' := Aside0.mk H
         clear H
         have hnb86 := bN4_1.out
         have hnc86 := bN1_4.out
         have hnb87 := bN4_2.out
         have hnc87 := bN2_4.out
         have hnb88 := bN4_3.out
         have hnc88 := bN3_4.out
         have hnb89 := bN4_5.out
         have hnc89 := bN5_4.out
         have hnb90 := bN4_6.out
         have hnc90 := bN6_4.out
         obtain ⟨hcz91_0, hcz91_1, hcz91_2, hfz91_0, hfz91_1, hfz91_2⟩ := cz3 bK4
         have hnb92 := bN5_1.out
         have hnc92 := bN1_5.out
         have hnb93 := bN5_2.out
         have hnc93 := bN2_5.out
         have hnb94 := bN5_3.out
         have hnc94 := bN3_5.out
         have hnb95 := bN5_6.out
         have hnc95 := bN6_5.out
         obtain ⟨hcz96_0, hcz96_1, hcz96_2, hfz96_0, hfz96_1, hfz96_2⟩ := cz3 bK5
         have hnb97 := bN6_1.out
         have hnc97 := bN1_6.out
         have hnb98 := bN6_2.out
         have hnc98 := bN2_6.out
         have hnb99 := bN6_3.out
         have hnc99 := bN3_6.out
         obtain ⟨hcz100_0, hcz100_1, hcz100_2, hfz100_0, hfz100_1, hfz100_2⟩ := cz3 bK6
         go_wp2
         go_meet
         case rel => exact ⟨_, ((t164 != 0)), re, H', ⟨by have := HK1.out; first | omega | exact Nat.le_refl _⟩, ⟨by (with_reducible repeat (first | refine blk_drewN ?_ _ | refine blk_drew ?_ | refine blk_alloc ?_ _)); exact bK1.out⟩, ⟨by (with_reducible repeat (first | refine blk_drewN ?_ _ | refine blk_drew ?_ | refine blk_alloc ?_ _)); exact bK2.out⟩, ⟨by (with_reducible repeat (first | refine blk_drewN ?_ _ | refine blk_drew ?_ | refine blk_alloc ?_ _)); exact bK3.out⟩, ⟨by (with_reducible repeat (first | refine blk_drewN ?_ _ | refine blk_drew ?_ | refine blk_alloc ?_ _)); exact bK4.out⟩, ⟨by (with_reducible repeat (first | refine blk_drewN ?_ _ | refine blk_drew ?_ | refine blk_alloc ?_ _)); exact bK5.out⟩, ⟨by (with_reducible repeat (first | refine blk_drewN ?_ _ | refine blk_drew ?_ | refine blk_alloc ?_ _)); exact bK6.out⟩, ⟨by repeat (first | (with_reducible first | exact HB.out | apply below_alloc | apply pw_below_drewN | apply below_drew1 | refine below_set ?_ bE1.out | refine below_set ?_ bE2.out | refine below_set ?_ bE3.out | refine below_set ?_ bE4.out | refine below_set ?_ bE5.out | refine below_set ?_ bE6.out) | exact HB.out)⟩⟩
        rw [if_neg c85] at H
        have c85b0 : (t160 == 0) = false := beq_eq_false_iff_ne.mpr c85
        have c85b1 : (t160 != 0) = true := bne_iff_ne.mpr c85
        have H' := Aside0.mk H
        clear H
        have hnb101 := bN4_1.out
        have hnc101 := bN1_4.out
        have hnb102 := bN4_2.out
        have hnc102 := bN2_4.out
        have hnb103 := bN4_3.out
        have hnc103 := bN3_4.out
        have hnb104 := bN4_5.out
        have hnc104 := bN5_4.out
        have hnb105 := bN4_6.out
        have hnc105 := bN6_4.out
        obtain ⟨hcz106_0, hcz106_1, hcz106_2, hfz106_0, hfz106_1, hfz106_2⟩ := cz3 bK4
        have hnb107 := bN5_1.out
        have hnc107 := bN1_5.out
        have hnb108 := bN5_2.out
        have hnc108 := bN2_5.out
        have hnb109 := bN5_3.out
        have hnc109 := bN3_5.out
        have hnb110 := bN5_6.out
        have hnc110 := bN6_5.out
        obtain ⟨hcz111_0, hcz111_1, hcz111_2, hfz111_0, hfz111_1, hfz111_2⟩ := cz3 bK5
        go_wp2
        go_meet
        case rel => exact ⟨_, (true), re, H', ⟨by have := HK1.out; first | omega | exact Nat.le_refl _⟩, ⟨by (with_reducible repeat (first | refine blk_drewN ?_ _ | refine blk_drew ?_ | refine blk_alloc ?_ _)); exact bK1.out⟩, ⟨by (with_reducible repeat (first | refine blk_drewN ?_ _ | refine blk_drew ?_ | refine blk_alloc ?_ _)); exact bK2.out⟩, ⟨by (with_reducible repeat (first | refine blk_drewN ?_ _ | refine blk_drew ?_ | refine blk_alloc ?_ _)); exact bK3.out⟩, ⟨by (with_reducible repeat (first | refine blk_drewN ?_ _ | refine blk_drew ?_ | refine blk_alloc ?_ _)); exact bK4.out⟩, ⟨by (with_reducible repeat (first | refine blk_drewN ?_ _ | refine blk_drew ?_ | refine blk_alloc ?_ _)); exact bK5.out⟩, ⟨by (with_reducible repeat (first | refine blk_drewN ?_ _ | refine blk_drew ?_ | refine blk_alloc ?_ _)); exact bK6.out⟩, ⟨by repeat (first | (with_reducible first | exact HB.out | apply below_alloc | apply pw_below_drewN | apply below_drew1 | refine below_set ?_ bE1.out | refine below_set ?_ bE2.out | refine below_set ?_ bE3.out | refine below_set ?_ bE4.out | refine below_set ?_ bE5.out | refine below_set ?_ bE6.out) | exact HB.out)⟩⟩
       rw [if_neg c84] at H
       have c84b0 : (t156 == 0) = false := beq_eq_false_iff_ne.mpr c84
       have c84b1 : (t156 != 0) = true := bne_iff_ne.mpr c84
       have H' := Aside0.mk H
       clear H
       have hnb112 := bN4_1.out
       have hnc112 := bN1_4.out
       have hnb113 := bN4_2.out
       have hnc113 := bN2_4.out
       have hnb114 := bN4_3.out
       have hnc114 := bN3_4.out
       have hnb115 := bN4_5.out
       have hnc115 := bN5_4.out
       have hnb116 := bN4_6.out
       have hnc116 := bN6_4.out
       obtain ⟨hcz117_0, hcz117_1, hcz117_2, hfz117_0, hfz117_1, hfz117_2⟩ := cz3 bK4
       go_wp2
       go_meet
       case rel => exact ⟨_, (true), re, H', ⟨by have := HK1.out; first | omega | exact Nat.le_refl _⟩, ⟨by (with_reducible repeat (first | refine blk_drewN ?_ _ | refine blk_drew ?_ | refine blk_alloc ?_ _)); exact bK1.out⟩, ⟨by (with_reducible repeat (first | refine blk_drewN ?_ _ | refine blk_drew ?_ | refine blk_alloc ?_ _)); exact bK2.out⟩, ⟨by (with_reducible repeat (first | refine blk_drewN ?_ _ | refine blk_drew ?_ | refine blk_alloc ?_ _)); exact bK3.out⟩, ⟨by (with_reducible repeat (first | refine blk_drewN ?_ _ | refine blk_drew ?_ | refine blk_alloc ?_ _)); exact bK4.out⟩, ⟨by (with_reducible repeat (first | refine blk_drewN ?_ _ | refine blk_drew ?_ | refine blk_alloc ?_ _)); exact bK5.out⟩, ⟨by (with_reducible repeat (first | refine blk_drewN ?_ _ | refine blk_drew ?_ | refine blk_alloc ?_ _)); exact bK6.out⟩, ⟨by repeat (first | (with_reducible first | exact HB.out | apply below_alloc | apply pw_below_drewN | apply below_drew1 | refine below_set ?_ bE1.out | refine below_set ?_ bE2.out | refine below_set ?_ bE3.out | refine below_set ?_ bE4.out | refine below_set ?_ bE5.out | refine below_set ?_ bE6.out) | exact HB.out)⟩⟩
      rw [if_neg c83] at H
      by_cases c118 : x10_1 = 2
      ·subst c118
       have H1 : (if t157 = 0 then (if t161 = 0 then (spec_l6Clash3.j1 k1 2 (t165 != 0) a0_0 a0_1 a0_2 a0_3 a1_0 a1_1 a1_2 a1_3 a2_0 a2_1 a2_2 a2_3 t155 t156 t157 t159 t160 t161 t163 t164 t165) else (spec_l6Clash3.j1 k1 2 true a0_0 a0_1 a0_2 a0_3 a1_0 a1_1 a1_2 a1_3 a2_0 a2_1 a2_2 a2_3 t155 t156 t157 t159 t160 t161 t163 t164 t165)) else (spec_l6Clash3.j1 k1 2 true a0_0 a0_1 a0_2 a0_3 a1_0 a1_1 a1_2 a1_3 a2_0 a2_1 a2_2 a2_3 t155 t156 t157 t159 t160 t161 t163 t164 t165)) = some r := by rw [if_pos rfl] at H; exact H
       clear H
       have H := H1
       clear H1
       by_cases c119 : t157 = 0
       ·rw [if_pos c119] at H
        have c119b0 : (t157 == 0) = true := beq_iff_eq.mpr c119
        have c119b1 : (t157 != 0) = false := bne_eq_false_iff_eq.mpr c119
        clear c119
        by_cases c120 : t161 = 0
        ·rw [if_pos c120] at H
         have c120b0 : (t161 == 0) = true := beq_iff_eq.mpr c120
         have c120b1 : (t161 != 0) = false := bne_eq_false_iff_eq.mpr c120
         clear c120
         have H' := Aside0.mk H
         clear H
         have hnb121 := bN4_1.out
         have hnc121 := bN1_4.out
         have hnb122 := bN4_2.out
         have hnc122 := bN2_4.out
         have hnb123 := bN4_3.out
         have hnc123 := bN3_4.out
         have hnb124 := bN4_5.out
         have hnc124 := bN5_4.out
         have hnb125 := bN4_6.out
         have hnc125 := bN6_4.out
         obtain ⟨hcz126_0, hcz126_1, hcz126_2, hfz126_0, hfz126_1, hfz126_2⟩ := cz3 bK4
         have hnb127 := bN5_1.out
         have hnc127 := bN1_5.out
         have hnb128 := bN5_2.out
         have hnc128 := bN2_5.out
         have hnb129 := bN5_3.out
         have hnc129 := bN3_5.out
         have hnb130 := bN5_6.out
         have hnc130 := bN6_5.out
         obtain ⟨hcz131_0, hcz131_1, hcz131_2, hfz131_0, hfz131_1, hfz131_2⟩ := cz3 bK5
         have hnb132 := bN6_1.out
         have hnc132 := bN1_6.out
         have hnb133 := bN6_2.out
         have hnc133 := bN2_6.out
         have hnb134 := bN6_3.out
         have hnc134 := bN3_6.out
         obtain ⟨hcz135_0, hcz135_1, hcz135_2, hfz135_0, hfz135_1, hfz135_2⟩ := cz3 bK6
         go_wp2
         go_meet
         case rel => exact ⟨_, ((t165 != 0)), re, H', ⟨by have := HK1.out; first | omega | exact Nat.le_refl _⟩, ⟨by (with_reducible repeat (first | refine blk_drewN ?_ _ | refine blk_drew ?_ | refine blk_alloc ?_ _)); exact bK1.out⟩, ⟨by (with_reducible repeat (first | refine blk_drewN ?_ _ | refine blk_drew ?_ | refine blk_alloc ?_ _)); exact bK2.out⟩, ⟨by (with_reducible repeat (first | refine blk_drewN ?_ _ | refine blk_drew ?_ | refine blk_alloc ?_ _)); exact bK3.out⟩, ⟨by (with_reducible repeat (first | refine blk_drewN ?_ _ | refine blk_drew ?_ | refine blk_alloc ?_ _)); exact bK4.out⟩, ⟨by (with_reducible repeat (first | refine blk_drewN ?_ _ | refine blk_drew ?_ | refine blk_alloc ?_ _)); exact bK5.out⟩, ⟨by (with_reducible repeat (first | refine blk_drewN ?_ _ | refine blk_drew ?_ | refine blk_alloc ?_ _)); exact bK6.out⟩, ⟨by repeat (first | (with_reducible first | exact HB.out | apply below_alloc | apply pw_below_drewN | apply below_drew1 | refine below_set ?_ bE1.out | refine below_set ?_ bE2.out | refine below_set ?_ bE3.out | refine below_set ?_ bE4.out | refine below_set ?_ bE5.out | refine below_set ?_ bE6.out) | exact HB.out)⟩⟩
        rw [if_neg c120] at H
        have c120b0 : (t161 == 0) = false := beq_eq_false_iff_ne.mpr c120
        have c120b1 : (t161 != 0) = true := bne_iff_ne.mpr c120
        have H' := Aside0.mk H
        clear H
        have hnb136 := bN4_1.out
        have hnc136 := bN1_4.out
        have hnb137 := bN4_2.out
        have hnc137 := bN2_4.out
        have hnb138 := bN4_3.out
        have hnc138 := bN3_4.out
        have hnb139 := bN4_5.out
        have hnc139 := bN5_4.out
        have hnb140 := bN4_6.out
        have hnc140 := bN6_4.out
        obtain ⟨hcz141_0, hcz141_1, hcz141_2, hfz141_0, hfz141_1, hfz141_2⟩ := cz3 bK4
        have hnb142 := bN5_1.out
        have hnc142 := bN1_5.out
        have hnb143 := bN5_2.out
        have hnc143 := bN2_5.out
        have hnb144 := bN5_3.out
        have hnc144 := bN3_5.out
        have hnb145 := bN5_6.out
        have hnc145 := bN6_5.out
        obtain ⟨hcz146_0, hcz146_1, hcz146_2, hfz146_0, hfz146_1, hfz146_2⟩ := cz3 bK5
        go_wp2
        go_meet
        case rel => exact ⟨_, (true), re, H', ⟨by have := HK1.out; first | omega | exact Nat.le_refl _⟩, ⟨by (with_reducible repeat (first | refine blk_drewN ?_ _ | refine blk_drew ?_ | refine blk_alloc ?_ _)); exact bK1.out⟩, ⟨by (with_reducible repeat (first | refine blk_drewN ?_ _ | refine blk_drew ?_ | refine blk_alloc ?_ _)); exact bK2.out⟩, ⟨by (with_reducible repeat (first | refine blk_drewN ?_ _ | refine blk_drew ?_ | refine blk_alloc ?_ _)); exact bK3.out⟩, ⟨by (with_reducible repeat (first | refine blk_drewN ?_ _ | refine blk_drew ?_ | refine blk_alloc ?_ _)); exact bK4.out⟩, ⟨by (with_reducible repeat (first | refine blk_drewN ?_ _ | refine blk_drew ?_ | refine blk_alloc ?_ _)); exact bK5.out⟩, ⟨by (with_reducible repeat (first | refine blk_drewN ?_ _ | refine blk_drew ?_ | refine blk_alloc ?_ _)); exact bK6.out⟩, ⟨by repeat (first | (with_reducible first | exact HB.out | apply below_alloc | apply pw_below_drewN | apply below_drew1 | refine below_set ?_ bE1.out | refine below_set ?_ bE2.out | refine below_set ?_ bE3.out | refine below_set ?_ bE4.out | refine below_set ?_ bE5.out | refine below_set ?_ bE6.out) | exact HB.out)⟩⟩
       rw [if_neg c119] at H
       have c119b0 : (t157 == 0) = false := beq_eq_false_iff_ne.mpr c119
       have c119b1 : (t157 != 0) = true := bne_iff_ne.mpr c119
       have H' := Aside0.mk H
       clear H
       have hnb147 := bN4_1.out
       have hnc147 := bN1_4.out
       have hnb148 := bN4_2.out
       have hnc148 := bN2_4.out
       have hnb149 := bN4_3.out
       have hnc149 := bN3_4.out
       have hnb150 := bN4_5.out
       have hnc150 := bN5_4.out
       have hnb151 := bN4_6.out
       have hnc151 := bN6_4.out
       obtain ⟨hcz152_0, hcz152_1, hcz152_2, hfz152_0, hfz152_1, hfz152_2⟩ := cz3 bK4
       go_wp2
       go_meet
       case rel => exact ⟨_, (true), re, H', ⟨by have := HK1.out; first | omega | exact Nat.le_refl _⟩, ⟨by (with_reducible repeat (first | refine blk_drewN ?_ _ | refine blk_drew ?_ | refine blk_alloc ?_ _)); exact bK1.out⟩, ⟨by (with_reducible repeat (first | refine blk_drewN ?_ _ | refine blk_drew ?_ | refine blk_alloc ?_ _)); exact bK2.out⟩, ⟨by (with_reducible repeat (first | refine blk_drewN ?_ _ | refine blk_drew ?_ | refine blk_alloc ?_ _)); exact bK3.out⟩, ⟨by (with_reducible repeat (first | refine blk_drewN ?_ _ | refine blk_drew ?_ | refine blk_alloc ?_ _)); exact bK4.out⟩, ⟨by (with_reducible repeat (first | refine blk_drewN ?_ _ | refine blk_drew ?_ | refine blk_alloc ?_ _)); exact bK5.out⟩, ⟨by (with_reducible repeat (first | refine blk_drewN ?_ _ | refine blk_drew ?_ | refine blk_alloc ?_ _)); exact bK6.out⟩, ⟨by repeat (first | (with_reducible first | exact HB.out | apply below_alloc | apply pw_below_drewN | apply below_drew1 | refine below_set ?_ bE1.out | refine below_set ?_ bE2.out | refine below_set ?_ bE3.out | refine below_set ?_ bE4.out | refine below_set ?_ bE5.out | refine below_set ?_ bE6.out) | exact HB.out)⟩⟩
      rw [if_neg c118] at H
      exact absurd H (by simp)
     case rest =>
      clear HC47
      obtain ⟨kq, x44_46, rfl, HA, HJ46, bK1, bK2, bK3, bK4, bK5, bK6, HB⟩ := hcut
      cases kq with
      | zero => exact absurd HA.out (by simp [spec_l6Clash3.j1])
      | succ kj46 =>
       have H := HA.out
       clear HA
       simp only [spec_l6Clash3.j1] at H
       by_cases c153 : x44_46 = true
       ·subst c153
        have H1 : (if x10_1 = 0 then ((spec_l6Sum.f kj46 (([t155, t159, t163] : List Int)) (([a0_3, a1_3, a2_3] : List Int))).bind fun t173 => (some t173)) else (if x10_1 = 1 then ((spec_l6Sum.f kj46 (([t156, t160, t164] : List Int)) (([a0_3, a1_3, a2_3] : List Int))).bind fun t180 => (some t180)) else (if x10_1 = 2 then ((spec_l6Sum.f kj46 (([t157, t161, t165] : List Int)) (([a0_3, a1_3, a2_3] : List Int))).bind fun t187 => (some t187)) else (none)))) = some r := by rw [if_pos rfl] at H; exact H
        clear H
        have H := H1
        clear H1
        by_cases c154 : x10_1 = 0
        ·subst c154
         have H1 : ((spec_l6Sum.f kj46 (([t155, t159, t163] : List Int)) (([a0_3, a1_3, a2_3] : List Int))).bind fun t173 => (some t173)) = some r := by rw [if_pos rfl] at H; exact H
         clear H
         have H := H1
         clear H1
         obtain ⟨y167, hy167⟩ : ∃ y_ : List Int, y_ = (([t155, t159, t163] : List Int)) := ⟨_, rfl⟩
         replace H : ((spec_l6Sum.f kj46 y167 (([a0_3, a1_3, a2_3] : List Int))).bind fun t173 => (some t173)) = some r := by first | (rw [hy167]; with_reducible exact H) | (have H2_ := (Option.bind_some _ _).symm.trans H; rw [hy167]; with_reducible exact H2_) | (have H2_ := (Option.bind_some _ _).symm.trans H; with_reducible exact H2_) | with_reducible exact H | (rw [hy167]; exact H) | exact H
         have Ny167 := Aside0.mk hy167
         clear hy167
         obtain ⟨y170, hy170⟩ : ∃ y_ : List Int, y_ = (([a0_3, a1_3, a2_3] : List Int)) := ⟨_, rfl⟩
         replace H : ((spec_l6Sum.f kj46 y167 y170).bind fun t173 => (some t173)) = some r := by first | (rw [hy170]; with_reducible exact H) | (have H2_ := (Option.bind_some _ _).symm.trans H; rw [hy170]; with_reducible exact H2_) | (have H2_ := (Option.bind_some _ _).symm.trans H; with_reducible exact H2_) | with_reducible exact H | (rw [hy170]; exact H) | exact H
         have Ny170 := Aside0.mk hy170
         clear hy170
         obtain ⟨t173, A155, H⟩ := bi H
         obtain rfl := Option.some.inj H
         try go_wp2
         replace bK1 := Aside0.mk (blk_drew bK1.out)
         replace bK2 := Aside0.mk (blk_drew bK2.out)
         replace bK3 := Aside0.mk (blk_drew bK3.out)
         replace bK4 := Aside0.mk (blk_drew bK4.out)
         replace bK5 := Aside0.mk (blk_drew bK5.out)
         replace bK6 := Aside0.mk (blk_drew bK6.out)
         replace HB := Aside0.mk (below_drew1 HB.out)
         refine start_ (n := 19) (S := fun w' => w'.cell? ⟨g4, 0, none⟩ = some (.int .i64 t155) ∧ w'.cell? ⟨g4, 1, none⟩ = some (.int .i64 t156) ∧ w'.cell? ⟨g4, 2, none⟩ = some (.int .i64 t157) ∧ w'.cell? ⟨g5, 0, none⟩ = some (.int .i64 t159) ∧ w'.cell? ⟨g5, 1, none⟩ = some (.int .i64 t160) ∧ w'.cell? ⟨g5, 2, none⟩ = some (.int .i64 t161) ∧ w'.cell? ⟨g6, 0, none⟩ = some (.int .i64 t163) ∧ w'.cell? ⟨g6, 1, none⟩ = some (.int .i64 t164) ∧ w'.cell? ⟨g6, 2, none⟩ = some (.int .i64 t165) ∧ w'.cell? ⟨g1, 0, none⟩ = some (.int .i64 a0_0) ∧ w'.cell? ⟨g1, 1, none⟩ = some (.int .i64 a0_1) ∧ w'.cell? ⟨g1, 2, none⟩ = some (.int .i64 a0_2) ∧ w'.cell? ⟨g1, 3, none⟩ = some (.int .i64 a0_3) ∧ w'.cell? ⟨g2, 0, none⟩ = some (.int .i64 a1_0) ∧ w'.cell? ⟨g2, 1, none⟩ = some (.int .i64 a1_1) ∧ w'.cell? ⟨g2, 2, none⟩ = some (.int .i64 a1_2) ∧ w'.cell? ⟨g2, 3, none⟩ = some (.int .i64 a1_3) ∧ w'.cell? ⟨g3, 0, none⟩ = some (.int .i64 a2_0) ∧ w'.cell? ⟨g3, 1, none⟩ = some (.int .i64 a2_1) ∧ w'.cell? ⟨g3, 2, none⟩ = some (.int .i64 a2_2) ∧ w'.cell? ⟨g3, 3, none⟩ = some (.int .i64 a2_3)) (ds := []) (bl 19 0) (by kernel_rfl) rfl rfl ⟨(blk_cell bK4.out 0).trans rfl, (blk_cell bK4.out 1).trans rfl, (blk_cell bK4.out 2).trans rfl, (blk_cell bK5.out 0).trans rfl, (blk_cell bK5.out 1).trans rfl, (blk_cell bK5.out 2).trans rfl, (blk_cell bK6.out 0).trans rfl, (blk_cell bK6.out 1).trans rfl, (blk_cell bK6.out 2).trans rfl, (blk_cell bK1.out 0).trans rfl, (blk_cell bK1.out 1).trans rfl, (blk_cell bK1.out 2).trans rfl, (blk_cell bK1.out 3).trans rfl, (blk_cell bK2.out 0).trans rfl, (blk_cell bK2.out 1).trans rfl, (blk_cell bK2.out 2).trans rfl, (blk_cell bK2.out 3).trans rfl, (blk_cell bK3.out 0).trans rfl, (blk_cell bK3.out 1).trans rfl, (blk_cell bK3.out 2).trans rfl, (blk_cell bK3.out 3).trans rfl⟩ (fun hHeld => ?_); refine with_tabW spec_l6Clash3.tab10 spec_l6Clash3.bits10 (fun HT_ HW_ => ?_)
         generalize wc.drew = w156 at bK1 bK2 bK3 bK4 bK5 bK6 HB hHeld ⊢
         refine pS 0 45 1 ?_
         refine pS 1 46 3 ?_
         refine pS 3 48 11 ?_
         refine pS 4 49 27 ?_
         refine pS 6 51 91 ?_
         refine pS 7 52 219 ?_
         refine pS 10 55 1243 ?_
         refine pS 12 57 5339 ?_
         refine pS 14 59 21723 ?_
         refine tS 2 47 21727 ?_
         refine tS 5 50 21759 ?_
         refine tS 8 53 22015 ?_
         refine tS 11 56 24063 ?_
         refine tS 13 58 32255 ?_
         refine tS 15 60 65023 ?_
         refine join_ (σ := Value × Value) 2 (bl 19 131071) (fun s_ => [(54, s_.1), (61, s_.2)]) (fun s_ w' => (w'.cell? ⟨g4, 0, none⟩ = some (.int .i64 t155) ∧ w'.cell? ⟨g4, 1, none⟩ = some (.int .i64 t156) ∧ w'.cell? ⟨g4, 2, none⟩ = some (.int .i64 t157) ∧ w'.cell? ⟨g5, 0, none⟩ = some (.int .i64 t159) ∧ w'.cell? ⟨g5, 1, none⟩ = some (.int .i64 t160) ∧ w'.cell? ⟨g5, 2, none⟩ = some (.int .i64 t161) ∧ w'.cell? ⟨g6, 0, none⟩ = some (.int .i64 t163) ∧ w'.cell? ⟨g6, 1, none⟩ = some (.int .i64 t164) ∧ w'.cell? ⟨g6, 2, none⟩ = some (.int .i64 t165) ∧ w'.cell? ⟨g1, 0, none⟩ = some (.int .i64 a0_0) ∧ w'.cell? ⟨g1, 1, none⟩ = some (.int .i64 a0_1) ∧ w'.cell? ⟨g1, 2, none⟩ = some (.int .i64 a0_2) ∧ w'.cell? ⟨g1, 3, none⟩ = some (.int .i64 a0_3) ∧ w'.cell? ⟨g2, 0, none⟩ = some (.int .i64 a1_0) ∧ w'.cell? ⟨g2, 1, none⟩ = some (.int .i64 a1_1) ∧ w'.cell? ⟨g2, 2, none⟩ = some (.int .i64 a1_2) ∧ w'.cell? ⟨g2, 3, none⟩ = some (.int .i64 a1_3) ∧ w'.cell? ⟨g3, 0, none⟩ = some (.int .i64 a2_0) ∧ w'.cell? ⟨g3, 1, none⟩ = some (.int .i64 a2_1) ∧ w'.cell? ⟨g3, 2, none⟩ = some (.int .i64 a2_2) ∧ w'.cell? ⟨g3, 3, none⟩ = some (.int .i64 a2_3)) ∧ (Kd.R (Kd.int .i64) 3 w' w.heap.size (fun k_ => some k_ ≠ (s_.2 : Value).ownBlock) s_.1 y167) ∧ (Kd.R (Kd.int .i64) 3 w' w.heap.size (fun k_ => some k_ ≠ (s_.1 : Value).ownBlock) s_.2 y170) ∧ (w'.heap[g1]? = some (.cells #[.int .i64 a0_0, .int .i64 a0_1, .int .i64 a0_2, .int .i64 a0_3] 23 (0, 0))) ∧ (w'.heap[g2]? = some (.cells #[.int .i64 a1_0, .int .i64 a1_1, .int .i64 a1_2, .int .i64 a1_3] 23 (0, 0))) ∧ (w'.heap[g3]? = some (.cells #[.int .i64 a2_0, .int .i64 a2_1, .int .i64 a2_2, .int .i64 a2_3] 23 (0, 0))) ∧ (w'.heap[g4]? = some (.cells #[.int .i64 t155, .int .i64 t156, .int .i64 t157] 128 (0, 0))) ∧ (w'.heap[g5]? = some (.cells #[.int .i64 t159, .int .i64 t160, .int .i64 t161] 128 (0, 0))) ∧ (w'.heap[g6]? = some (.cells #[.int .i64 t163, .int .i64 t164, .int .i64 t165] 128 (0, 0))) ∧ (Below w.heap.size w w')) ?_ ?_
         rotate_left
         ·intro hCont
          refine two_ (i := 9) (j := 16) (Ni := some 54) (Nj := some 61) (bl 19 65535) (bl 19 130559) rfl rfl rfl rfl (two_of HT_.out (by kernel_rfl)) (by decide) (by decide) (fun K hK => ?_) (fun K hK => ?_)
          ·skip
           refine Kd.R_lit_step (Kd.int .i64) _ 3 ?hg (N := 54) ?hd (xs := ([t155, t159, t163] : List Int)) (inner := [.int .i64 t155, .int .i64 t159, .int .i64 t163]) (ok := fun _ => True) (okp := fun _ => True) ?hr ?hp (fun _ hk => hk) trivial (Below.refl _ _) (Nat.le_refl _) (by simp) ?_; (case hd => rfl); (case hg => rfl); (case hr => first | (go_simp; done) | (go_simp; rfl)); (case hp => exact (Reps.one (show Kd.M (Kd.int .i64) _ _ _ t155 [.int .i64 t155] from rfl) (Reps.one (show Kd.M (Kd.int .i64) _ _ _ t159 [.int .i64 t159] from rfl) (Reps.one (show Kd.M (Kd.int .i64) _ _ _ t163 [.int .i64 t163] from rfl) (Reps.none _ _)))))
           intro v168 w157 ho158 hb hg_ hnew_
           clear hg_ hnew_
           (first | rw [← Ny167.out] at ho158 | (simp only [Int.reduceToNat] at ho158; rw [← Ny167.out] at ho158))
           have HO169 := Aside0.mk (Kd.R_lower ho158 (below_size (hbx HB)))
           replace bK1 := kb bK1 hb
           replace bK2 := kb bK2 hb
           replace bK3 := kb bK3 hb
           replace bK4 := kb bK4 hb
           replace bK5 := kb bK5 hb
           replace bK6 := kb bK6 hb
           replace HB := bt HB hb
           clear hb ho158
           refine ko hK (fun hHeld => ?_)
           clear hK K
           refine nm 54 ?_
           refine oS 16 61 131071 (fun K hK => ?_)
           refine Kd.R_lit_step (Kd.int .i64) _ 3 ?hg (N := 61) ?hd (xs := ([a0_3, a1_3, a2_3] : List Int)) (inner := [.int .i64 a0_3, .int .i64 a1_3, .int .i64 a2_3]) (ok := fun _ => True) (okp := fun _ => True) ?hr ?hp (fun _ hk => hk) trivial (Below.refl _ _) (Nat.le_refl _) (by simp) ?_; (case hd => rfl); (case hg => rfl); (case hr => first | (go_simp; done) | (go_simp; rfl)); (case hp => exact (Reps.one (show Kd.M (Kd.int .i64) _ _ _ a0_3 [.int .i64 a0_3] from rfl) (Reps.one (show Kd.M (Kd.int .i64) _ _ _ a1_3 [.int .i64 a1_3] from rfl) (Reps.one (show Kd.M (Kd.int .i64) _ _ _ a2_3 [.int .i64 a2_3] from rfl) (Reps.none _ _)))))
           intro v171 w159 ho160 hb hg_ hnew_
           clear hg_ hnew_
           (first | rw [← Ny170.out] at ho160 | (simp only [Int.reduceToNat] at ho160; rw [← Ny170.out] at ho160))
           have n0_ := Aside0.mk (Kd.R_elder' (by (with_reducible repeat (first | apply Kd.R_alloc | apply Kd.R_drewN | apply Kd.R_drew)); exact HO169.out) (Kd.R_base ho160) hb)
           have n1_ := Aside0.mk (Kd.R_lower (Kd.R_new' ho160 (Kd.R_lt (by (with_reducible repeat (first | apply Kd.R_alloc | apply Kd.R_drewN | apply Kd.R_drew)); exact HO169.out))) (below_size (hbx HB)))
           have n2_ := kb bK1 hb
           have n3_ := kb bK2 hb
           have n4_ := kb bK3 hb
           have n5_ := kb bK4 hb
           have n6_ := kb bK5 hb
           have n7_ := kb bK6 hb
           have n8_ := bt HB hb
           clear HO169
           clear bK1
           clear bK2
           clear bK3
           clear bK4
           clear bK5
           clear bK6
           clear HB
           have HO169 := n0_
           have HO172 := n1_
           have bK1 := n2_
           have bK2 := n3_
           have bK3 := n4_
           have bK4 := n5_
           have bK5 := n6_
           have bK6 := n7_
           have HB := n8_
           clear n0_ n1_ n2_ n3_ n4_ n5_ n6_ n7_ n8_
           clear hb ho160
           refine ko hK (fun hHeld => ?_)
           clear hK K
           refine nm 61 ?_
           exact norm_ (by simp only [putAll, Act.put, List.setIfInBounds_toArray, List.set_cons_zero, List.set_cons_succ]) (hCont (v168, v171) _ ⟨hHeld, (by (with_reducible repeat (first | apply Kd.R_alloc | apply Kd.R_drewN | apply Kd.R_drew)); exact Kd.R_mono HO169.out (fun _ hk => hk.2)), (by (with_reducible repeat (first | apply Kd.R_alloc | apply Kd.R_drewN | apply Kd.R_drew)); exact Kd.R_mono HO172.out (fun _ hk => hk.2)), (kbx bK1), (kbx bK2), (kbx bK3), (kbx bK4), (kbx bK5), (kbx bK6), (hbx HB)⟩)
          skip
          refine Kd.R_lit_step (Kd.int .i64) _ 3 ?hg (N := 61) ?hd (xs := ([a0_3, a1_3, a2_3] : List Int)) (inner := [.int .i64 a0_3, .int .i64 a1_3, .int .i64 a2_3]) (ok := fun _ => True) (okp := fun _ => True) ?hr ?hp (fun _ hk => hk) trivial (Below.refl _ _) (Nat.le_refl _) (by simp) ?_; (case hd => rfl); (case hg => rfl); (case hr => first | (go_simp; done) | (go_simp; rfl)); (case hp => exact (Reps.one (show Kd.M (Kd.int .i64) _ _ _ a0_3 [.int .i64 a0_3] from rfl) (Reps.one (show Kd.M (Kd.int .i64) _ _ _ a1_3 [.int .i64 a1_3] from rfl) (Reps.one (show Kd.M (Kd.int .i64) _ _ _ a2_3 [.int .i64 a2_3] from rfl) (Reps.none _ _)))))
          intro v171 w157 ho158 hb hg_ hnew_
          clear hg_ hnew_
          (first | rw [← Ny170.out] at ho158 | (simp only [Int.reduceToNat] at ho158; rw [← Ny170.out] at ho158))
          have HO172 := Aside0.mk (Kd.R_lower ho158 (below_size (hbx HB)))
          replace bK1 := kb bK1 hb
          replace bK2 := kb bK2 hb
          replace bK3 := kb bK3 hb
          replace bK4 := kb bK4 hb
          replace bK5 := kb bK5 hb
          replace bK6 := kb bK6 hb
          replace HB := bt HB hb
          clear hb ho158
          refine ko hK (fun hHeld => ?_)
          clear hK K
          refine nm 61 ?_
          refine oS 9 54 131071 (fun K hK => ?_)
          refine Kd.R_lit_step (Kd.int .i64) _ 3 ?hg (N := 54) ?hd (xs := ([t155, t159, t163] : List Int)) (inner := [.int .i64 t155, .int .i64 t159, .int .i64 t163]) (ok := fun _ => True) (okp := fun _ => True) ?hr ?hp (fun _ hk => hk) trivial (Below.refl _ _) (Nat.le_refl _) (by simp) ?_; (case hd => rfl); (case hg => rfl); (case hr => first | (go_simp; done) | (go_simp; rfl)); (case hp => exact (Reps.one (show Kd.M (Kd.int .i64) _ _ _ t155 [.int .i64 t155] from rfl) (Reps.one (show Kd.M (Kd.int .i64) _ _ _ t159 [.int .i64 t159] from rfl) (Reps.one (show Kd.M (Kd.int .i64) _ _ _ t163 [.int .i64 t163] from rfl) (Reps.none _ _)))))
          intro v168 w159 ho160 hb hg_ hnew_
          clear hg_ hnew_
          (first | rw [← Ny167.out] at ho160 | (simp only [Int.reduceToNat] at ho160; rw [← Ny167.out] at ho160))
          have n0_ := Aside0.mk (Kd.R_elder' (by (with_reducible repeat (first | apply Kd.R_alloc | apply Kd.R_drewN | apply Kd.R_drew)); exact HO172.out) (Kd.R_base ho160) hb)
          have n1_ := Aside0.mk (Kd.R_lower (Kd.R_new' ho160 (Kd.R_lt (by (with_reducible repeat (first | apply Kd.R_alloc | apply Kd.R_drewN | apply Kd.R_drew)); exact HO172.out))) (below_size (hbx HB)))
          have n2_ := kb bK1 hb
          have n3_ := kb bK2 hb
          have n4_ := kb bK3 hb
          have n5_ := kb bK4 hb
          have n6_ := kb bK5 hb
          have n7_ := kb bK6 hb
          have n8_ := bt HB hb
          clear HO172
          clear bK1
          clear bK2
          clear bK3
          clear bK4
          clear bK5
          clear bK6
          clear HB
          have HO172 := n0_
          have HO169 := n1_
          have bK1 := n2_
          have bK2 := n3_
          have bK3 := n4_
          have bK4 := n5_
          have bK5 := n6_
          have bK6 := n7_
          have HB := n8_
          clear n0_ n1_ n2_ n3_ n4_ n5_ n6_ n7_ n8_
          clear hb ho160
          refine ko hK (fun hHeld => ?_)
          clear hK K
          refine nm 54 ?_
          exact norm_ (by simp only [putAll, Act.put, List.setIfInBounds_toArray, List.set_cons_zero, List.set_cons_succ]) (hCont (v168, v171) _ ⟨hHeld, (by (with_reducible repeat (first | apply Kd.R_alloc | apply Kd.R_drewN | apply Kd.R_drew)); exact Kd.R_mono HO169.out (fun _ hk => hk.2)), (by (with_reducible repeat (first | apply Kd.R_alloc | apply Kd.R_drewN | apply Kd.R_drew)); exact Kd.R_mono HO172.out (fun _ hk => hk.2)), (kbx bK1), (kbx bK2), (kbx bK3), (kbx bK4), (kbx bK5), (kbx bK6), (hbx HB)⟩)
         rintro ⟨v168, v171⟩ w161 ⟨hS_, h0_, h1_, h2_, h3_, h4_, h5_, h6_, h7_, h8_⟩
         have HO169 := Aside0.mk h0_
         have HO172 := Aside0.mk h1_
         replace bK1 := Aside0.mk h2_
         replace bK2 := Aside0.mk h3_
         replace bK3 := Aside0.mk h4_
         replace bK4 := Aside0.mk h5_
         replace bK5 := Aside0.mk h6_
         replace bK6 := Aside0.mk h7_
         replace HB := Aside0.mk h8_
         clear h0_ h1_ h2_ h3_ h4_ h5_ h6_ h7_ h8_
         have hHeld := hS_
         obtain ⟨Ao162, co162, eo162⟩ := Kd.R_slice HO169.out
         (first | subst eo162 | (injection eo162 with f1_ f2_ f3_; have f4_ := f1_.symm; have f5_ := f3_.symm; clear f1_ f2_ f3_; subst f4_; subst f5_))
         obtain ⟨Ao163, co163, eo163⟩ := Kd.R_slice HO172.out
         (first | subst eo163 | (injection eo163 with f1_ f2_ f3_; have f4_ := f1_.symm; have f5_ := f3_.symm; clear f1_ f2_ f3_; subst f4_; subst f5_))
         refine norm_ (a' := ?_) ?_ ?_
         rotate_left
         ·simp only [putAll, Act.put, List.setIfInBounds_toArray, List.set_cons_zero, List.set_cons_succ]
          rfl
         refine oS 17 62 262143 (fun K hK => ?_)
         refine gO Try.func176 #[.slice Ao162 y167.length co162, .slice Ao163 y170.length co163] ?_
         with_reducible refine (spec_l6Sum.calls kj46 _ _ y167 _ _ y170 t173 _ ?side1 ?side2 ?side3 ?side4 A155.out).mono ?_
         (case side1 => repeat (first | exact (Kd.R_reads' HO169.out).2.2 | (with_reducible refine Kd.C_alloc ?_ _) | (with_reducible refine Kd.C_drewN ?_ _) | (with_reducible refine Kd.C_drew ?_)))
         (case side2 => exact (Kd.R_reads' HO169.out).2.1)
         (case side3 => repeat (first | exact (Kd.R_reads' HO172.out).2.2 | (with_reducible refine Kd.C_alloc ?_ _) | (with_reducible refine Kd.C_drewN ?_ _) | (with_reducible refine Kd.C_drew ?_)))
         (case side4 => exact (Kd.R_reads' HO172.out).2.1)
         rintro e w' ⟨rfl, ⟨nd, rfl⟩⟩
         refine ⟨_, rfl, ?_⟩
         refine ko hK (fun hHeld => ?_)
         clear hK K
         refine nm 62 ?_
         refine pS 18 6 524287 ?_
         refine done_ (done_of HT_.out (by kernel_rfl)) ?_
         try go_wp2
         go_ret
         exact fin HB
        rw [if_neg c154] at H
        by_cases c164 : x10_1 = 1
        ·subst c164
         have H1 : ((spec_l6Sum.f kj46 (([t156, t160, t164] : List Int)) (([a0_3, a1_3, a2_3] : List Int))).bind fun t180 => (some t180)) = some r := by rw [if_pos rfl] at H; exact H
         clear H
         have H := H1
         clear H1
         obtain ⟨y174, hy174⟩ : ∃ y_ : List Int, y_ = (([t156, t160, t164] : List Int)) := ⟨_, rfl⟩
         replace H : ((spec_l6Sum.f kj46 y174 (([a0_3, a1_3, a2_3] : List Int))).bind fun t180 => (some t180)) = some r := by first | (rw [hy174]; with_reducible exact H) | (have H2_ := (Option.bind_some _ _).symm.trans H; rw [hy174]; with_reducible exact H2_) | (have H2_ := (Option.bind_some _ _).symm.trans H; with_reducible exact H2_) | with_reducible exact H | (rw [hy174]; exact H) | exact H
         have Ny174 := Aside0.mk hy174
         clear hy174
         obtain ⟨y177, hy177⟩ : ∃ y_ : List Int, y_ = (([a0_3, a1_3, a2_3] : List Int)) := ⟨_, rfl⟩
         replace H : ((spec_l6Sum.f kj46 y174 y177).bind fun t180 => (some t180)) = some r := by first | (rw [hy177]; with_reducible exact H) | (have H2_ := (Option.bind_some _ _).symm.trans H; rw [hy177]; with_reducible exact H2_) | (have H2_ := (Option.bind_some _ _).symm.trans H; with_reducible exact H2_) | with_reducible exact H | (rw [hy177]; exact H) | exact H
         have Ny177 := Aside0.mk hy177
         clear hy177
         obtain ⟨t180, A165, H⟩ := bi H
         obtain rfl := Option.some.inj H
         try go_wp2
         replace bK1 := Aside0.mk (blk_drew bK1.out)
         replace bK2 := Aside0.mk (blk_drew bK2.out)
         replace bK3 := Aside0.mk (blk_drew bK3.out)
         replace bK4 := Aside0.mk (blk_drew bK4.out)
         replace bK5 := Aside0.mk (blk_drew bK5.out)
         replace bK6 := Aside0.mk (blk_drew bK6.out)
         replace HB := Aside0.mk (below_drew1 HB.out)
         refine start_ (n := 19) (S := fun w' => w'.cell? ⟨g4, 0, none⟩ = some (.int .i64 t155) ∧ w'.cell? ⟨g4, 1, none⟩ = some (.int .i64 t156) ∧ w'.cell? ⟨g4, 2, none⟩ = some (.int .i64 t157) ∧ w'.cell? ⟨g5, 0, none⟩ = some (.int .i64 t159) ∧ w'.cell? ⟨g5, 1, none⟩ = some (.int .i64 t160) ∧ w'.cell? ⟨g5, 2, none⟩ = some (.int .i64 t161) ∧ w'.cell? ⟨g6, 0, none⟩ = some (.int .i64 t163) ∧ w'.cell? ⟨g6, 1, none⟩ = some (.int .i64 t164) ∧ w'.cell? ⟨g6, 2, none⟩ = some (.int .i64 t165) ∧ w'.cell? ⟨g1, 0, none⟩ = some (.int .i64 a0_0) ∧ w'.cell? ⟨g1, 1, none⟩ = some (.int .i64 a0_1) ∧ w'.cell? ⟨g1, 2, none⟩ = some (.int .i64 a0_2) ∧ w'.cell? ⟨g1, 3, none⟩ = some (.int .i64 a0_3) ∧ w'.cell? ⟨g2, 0, none⟩ = some (.int .i64 a1_0) ∧ w'.cell? ⟨g2, 1, none⟩ = some (.int .i64 a1_1) ∧ w'.cell? ⟨g2, 2, none⟩ = some (.int .i64 a1_2) ∧ w'.cell? ⟨g2, 3, none⟩ = some (.int .i64 a1_3) ∧ w'.cell? ⟨g3, 0, none⟩ = some (.int .i64 a2_0) ∧ w'.cell? ⟨g3, 1, none⟩ = some (.int .i64 a2_1) ∧ w'.cell? ⟨g3, 2, none⟩ = some (.int .i64 a2_2) ∧ w'.cell? ⟨g3, 3, none⟩ = some (.int .i64 a2_3)) (ds := []) (bl 19 0) (by kernel_rfl) rfl rfl ⟨(blk_cell bK4.out 0).trans rfl, (blk_cell bK4.out 1).trans rfl, (blk_cell bK4.out 2).trans rfl, (blk_cell bK5.out 0).trans rfl, (blk_cell bK5.out 1).trans rfl, (blk_cell bK5.out 2).trans rfl, (blk_cell bK6.out 0).trans rfl, (blk_cell bK6.out 1).trans rfl, (blk_cell bK6.out 2).trans rfl, (blk_cell bK1.out 0).trans rfl, (blk_cell bK1.out 1).trans rfl, (blk_cell bK1.out 2).trans rfl, (blk_cell bK1.out 3).trans rfl, (blk_cell bK2.out 0).trans rfl, (blk_cell bK2.out 1).trans rfl, (blk_cell bK2.out 2).trans rfl, (blk_cell bK2.out 3).trans rfl, (blk_cell bK3.out 0).trans rfl, (blk_cell bK3.out 1).trans rfl, (blk_cell bK3.out 2).trans rfl, (blk_cell bK3.out 3).trans rfl⟩ (fun hHeld => ?_); refine with_tabW spec_l6Clash3.tab10 spec_l6Clash3.bits10 (fun HT_ HW_ => ?_)
         generalize wc.drew = w166 at bK1 bK2 bK3 bK4 bK5 bK6 HB hHeld ⊢
         refine pS 0 45 1 ?_
         refine pS 1 46 3 ?_
         refine pS 3 48 11 ?_
         refine pS 4 49 27 ?_
         refine pS 6 51 91 ?_
         refine pS 7 52 219 ?_
         refine pS 10 55 1243 ?_
         refine pS 12 57 5339 ?_
         refine pS 14 59 21723 ?_
         refine tS 2 47 21727 ?_
         refine tS 5 50 21759 ?_
         refine tS 8 53 22015 ?_
         refine tS 11 56 24063 ?_
         refine tS 13 58 32255 ?_
         refine tS 15 60 65023 ?_
         refine join_ (σ := Value × Value) 2 (bl 19 131071) (fun s_ => [(54, s_.1), (61, s_.2)]) (fun s_ w' => (w'.cell? ⟨g4, 0, none⟩ = some (.int .i64 t155) ∧ w'.cell? ⟨g4, 1, none⟩ = some (.int .i64 t156) ∧ w'.cell? ⟨g4, 2, none⟩ = some (.int .i64 t157) ∧ w'.cell? ⟨g5, 0, none⟩ = some (.int .i64 t159) ∧ w'.cell? ⟨g5, 1, none⟩ = some (.int .i64 t160) ∧ w'.cell? ⟨g5, 2, none⟩ = some (.int .i64 t161) ∧ w'.cell? ⟨g6, 0, none⟩ = some (.int .i64 t163) ∧ w'.cell? ⟨g6, 1, none⟩ = some (.int .i64 t164) ∧ w'.cell? ⟨g6, 2, none⟩ = some (.int .i64 t165) ∧ w'.cell? ⟨g1, 0, none⟩ = some (.int .i64 a0_0) ∧ w'.cell? ⟨g1, 1, none⟩ = some (.int .i64 a0_1) ∧ w'.cell? ⟨g1, 2, none⟩ = some (.int .i64 a0_2) ∧ w'.cell? ⟨g1, 3, none⟩ = some (.int .i64 a0_3) ∧ w'.cell? ⟨g2, 0, none⟩ = some (.int .i64 a1_0) ∧ w'.cell? ⟨g2, 1, none⟩ = some (.int .i64 a1_1) ∧ w'.cell? ⟨g2, 2, none⟩ = some (.int .i64 a1_2) ∧ w'.cell? ⟨g2, 3, none⟩ = some (.int .i64 a1_3) ∧ w'.cell? ⟨g3, 0, none⟩ = some (.int .i64 a2_0) ∧ w'.cell? ⟨g3, 1, none⟩ = some (.int .i64 a2_1) ∧ w'.cell? ⟨g3, 2, none⟩ = some (.int .i64 a2_2) ∧ w'.cell? ⟨g3, 3, none⟩ = some (.int .i64 a2_3)) ∧ (Kd.R (Kd.int .i64) 3 w' w.heap.size (fun k_ => some k_ ≠ (s_.2 : Value).ownBlock) s_.1 y174) ∧ (Kd.R (Kd.int .i64) 3 w' w.heap.size (fun k_ => some k_ ≠ (s_.1 : Value).ownBlock) s_.2 y177) ∧ (w'.heap[g1]? = some (.cells #[.int .i64 a0_0, .int .i64 a0_1, .int .i64 a0_2, .int .i64 a0_3] 23 (0, 0))) ∧ (w'.heap[g2]? = some (.cells #[.int .i64 a1_0, .int .i64 a1_1, .int .i64 a1_2, .int .i64 a1_3] 23 (0, 0))) ∧ (w'.heap[g3]? = some (.cells #[.int .i64 a2_0, .int .i64 a2_1, .int .i64 a2_2, .int .i64 a2_3] 23 (0, 0))) ∧ (w'.heap[g4]? = some (.cells #[.int .i64 t155, .int .i64 t156, .int .i64 t157] 128 (0, 0))) ∧ (w'.heap[g5]? = some (.cells #[.int .i64 t159, .int .i64 t160, .int .i64 t161] 128 (0, 0))) ∧ (w'.heap[g6]? = some (.cells #[.int .i64 t163, .int .i64 t164, .int .i64 t165] 128 (0, 0))) ∧ (Below w.heap.size w w')) ?_ ?_
         rotate_left
         ·intro hCont
          refine two_ (i := 9) (j := 16) (Ni := some 54) (Nj := some 61) (bl 19 65535) (bl 19 130559) rfl rfl rfl rfl (two_of HT_.out (by kernel_rfl)) (by decide) (by decide) (fun K hK => ?_) (fun K hK => ?_)
          ·skip
           refine Kd.R_lit_step (Kd.int .i64) _ 3 ?hg (N := 54) ?hd (xs := ([t156, t160, t164] : List Int)) (inner := [.int .i64 t156, .int .i64 t160, .int .i64 t164]) (ok := fun _ => True) (okp := fun _ => True) ?hr ?hp (fun _ hk => hk) trivial (Below.refl _ _) (Nat.le_refl _) (by simp) ?_; (case hd => rfl); (case hg => rfl); (case hr => first | (go_simp; done) | (go_simp; rfl)); (case hp => exact (Reps.one (show Kd.M (Kd.int .i64) _ _ _ t156 [.int .i64 t156] from rfl) (Reps.one (show Kd.M (Kd.int .i64) _ _ _ t160 [.int .i64 t160] from rfl) (Reps.one (show Kd.M (Kd.int .i64) _ _ _ t164 [.int .i64 t164] from rfl) (Reps.none _ _)))))
           intro v175 w167 ho168 hb hg_ hnew_
           clear hg_ hnew_
           (first | rw [← Ny174.out] at ho168 | (simp only [Int.reduceToNat] at ho168; rw [← Ny174.out] at ho168))
           have HO176 := Aside0.mk (Kd.R_lower ho168 (below_size (hbx HB)))
           replace bK1 := kb bK1 hb
           replace bK2 := kb bK2 hb
           replace bK3 := kb bK3 hb
           replace bK4 := kb bK4 hb
           replace bK5 := kb bK5 hb
           replace bK6 := kb bK6 hb
           replace HB := bt HB hb
           clear hb ho168
           refine ko hK (fun hHeld => ?_)
           clear hK K
           refine nm 54 ?_
           refine oS 16 61 131071 (fun K hK => ?_)
           refine Kd.R_lit_step (Kd.int .i64) _ 3 ?hg (N := 61) ?hd (xs := ([a0_3, a1_3, a2_3] : List Int)) (inner := [.int .i64 a0_3, .int .i64 a1_3, .int .i64 a2_3]) (ok := fun _ => True) (okp := fun _ => True) ?hr ?hp (fun _ hk => hk) trivial (Below.refl _ _) (Nat.le_refl _) (by simp) ?_; (case hd => rfl); (case hg => rfl); (case hr => first | (go_simp; done) | (go_simp; rfl)); (case hp => exact (Reps.one (show Kd.M (Kd.int .i64) _ _ _ a0_3 [.int .i64 a0_3] from rfl) (Reps.one (show Kd.M (Kd.int .i64) _ _ _ a1_3 [.int .i64 a1_3] from rfl) (Reps.one (show Kd.M (Kd.int .i64) _ _ _ a2_3 [.int .i64 a2_3] from rfl) (Reps.none _ _)))))
           intro v178 w169 ho170 hb hg_ hnew_
           clear hg_ hnew_
           (first | rw [← Ny177.out] at ho170 | (simp only [Int.reduceToNat] at ho170; rw [← Ny177.out] at ho170))
           have n0_ := Aside0.mk (Kd.R_elder' (by (with_reducible repeat (first | apply Kd.R_alloc | apply Kd.R_drewN | apply Kd.R_drew)); exact HO176.out) (Kd.R_base ho170) hb)
           have n1_ := Aside0.mk (Kd.R_lower (Kd.R_new' ho170 (Kd.R_lt (by (with_reducible repeat (first | apply Kd.R_alloc | apply Kd.R_drewN | apply Kd.R_drew)); exact HO176.out))) (below_size (hbx HB)))
           have n2_ := kb bK1 hb
           have n3_ := kb bK2 hb
           have n4_ := kb bK3 hb
           have n5_ := kb bK4 hb
           have n6_ := kb bK5 hb
           have n7_ := kb bK6 hb
           have n8_ := bt HB hb
           clear HO176
           clear bK1
           clear bK2
           clear bK3
           clear bK4
           clear bK5
           clear bK6
           clear HB
           have HO176 := n0_
           have HO179 := n1_
           have bK1 := n2_
           have bK2 := n3_
           have bK3 := n4_
           have bK4 := n5_
           have bK5 := n6_
           have bK6 := n7_
           have HB := n8_
           clear n0_ n1_ n2_ n3_ n4_ n5_ n6_ n7_ n8_
           clear hb ho170
           refine ko hK (fun hHeld => ?_)
           clear hK K
           refine nm 61 ?_
           exact norm_ (by simp only [putAll, Act.put, List.setIfInBounds_toArray, List.set_cons_zero, List.set_cons_succ]) (hCont (v175, v178) _ ⟨hHeld, (by (with_reducible repeat (first | apply Kd.R_alloc | apply Kd.R_drewN | apply Kd.R_drew)); exact Kd.R_mono HO176.out (fun _ hk => hk.2)), (by (with_reducible repeat (first | apply Kd.R_alloc | apply Kd.R_drewN | apply Kd.R_drew)); exact Kd.R_mono HO179.out (fun _ hk => hk.2)), (kbx bK1), (kbx bK2), (kbx bK3), (kbx bK4), (kbx bK5), (kbx bK6), (hbx HB)⟩)
          skip
          refine Kd.R_lit_step (Kd.int .i64) _ 3 ?hg (N := 61) ?hd (xs := ([a0_3, a1_3, a2_3] : List Int)) (inner := [.int .i64 a0_3, .int .i64 a1_3, .int .i64 a2_3]) (ok := fun _ => True) (okp := fun _ => True) ?hr ?hp (fun _ hk => hk) trivial (Below.refl _ _) (Nat.le_refl _) (by simp) ?_; (case hd => rfl); (case hg => rfl); (case hr => first | (go_simp; done) | (go_simp; rfl)); (case hp => exact (Reps.one (show Kd.M (Kd.int .i64) _ _ _ a0_3 [.int .i64 a0_3] from rfl) (Reps.one (show Kd.M (Kd.int .i64) _ _ _ a1_3 [.int .i64 a1_3] from rfl) (Reps.one (show Kd.M (Kd.int .i64) _ _ _ a2_3 [.int .i64 a2_3] from rfl) (Reps.none _ _)))))
          intro v178 w167 ho168 hb hg_ hnew_
          clear hg_ hnew_
          (first | rw [← Ny177.out] at ho168 | (simp only [Int.reduceToNat] at ho168; rw [← Ny177.out] at ho168))
          have HO179 := Aside0.mk (Kd.R_lower ho168 (below_size (hbx HB)))
          replace bK1 := kb bK1 hb
          replace bK2 := kb bK2 hb
          replace bK3 := kb bK3 hb
          replace bK4 := kb bK4 hb
          replace bK5 := kb bK5 hb
          replace bK6 := kb bK6 hb
          replace HB := bt HB hb
          clear hb ho168
          refine ko hK (fun hHeld => ?_)
          clear hK K
          refine nm 61 ?_
          refine oS 9 54 131071 (fun K hK => ?_)
          refine Kd.R_lit_step (Kd.int .i64) _ 3 ?hg (N := 54) ?hd (xs := ([t156, t160, t164] : List Int)) (inner := [.int .i64 t156, .int .i64 t160, .int .i64 t164]) (ok := fun _ => True) (okp := fun _ => True) ?hr ?hp (fun _ hk => hk) trivial (Below.refl _ _) (Nat.le_refl _) (by simp) ?_; (case hd => rfl); (case hg => rfl); (case hr => first | (go_simp; done) | (go_simp; rfl)); (case hp => exact (Reps.one (show Kd.M (Kd.int .i64) _ _ _ t156 [.int .i64 t156] from rfl) (Reps.one (show Kd.M (Kd.int .i64) _ _ _ t160 [.int .i64 t160] from rfl) (Reps.one (show Kd.M (Kd.int .i64) _ _ _ t164 [.int .i64 t164] from rfl) (Reps.none _ _)))))
          intro v175 w169 ho170 hb hg_ hnew_
          clear hg_ hnew_
          (first | rw [← Ny174.out] at ho170 | (simp only [Int.reduceToNat] at ho170; rw [← Ny174.out] at ho170))
          have n0_ := Aside0.mk (Kd.R_elder' (by (with_reducible repeat (first | apply Kd.R_alloc | apply Kd.R_drewN | apply Kd.R_drew)); exact HO179.out) (Kd.R_base ho170) hb)
          have n1_ := Aside0.mk (Kd.R_lower (Kd.R_new' ho170 (Kd.R_lt (by (with_reducible repeat (first | apply Kd.R_alloc | apply Kd.R_drewN | apply Kd.R_drew)); exact HO179.out))) (below_size (hbx HB)))
          have n2_ := kb bK1 hb
          have n3_ := kb bK2 hb
          have n4_ := kb bK3 hb
          have n5_ := kb bK4 hb
          have n6_ := kb bK5 hb
          have n7_ := kb bK6 hb
          have n8_ := bt HB hb
          clear HO179
          clear bK1
          clear bK2
          clear bK3
          clear bK4
          clear bK5
          clear bK6
          clear HB
          have HO179 := n0_
          have HO176 := n1_
          have bK1 := n2_
          have bK2 := n3_
          have bK3 := n4_
          have bK4 := n5_
          have bK5 := n6_
          have bK6 := n7_
          have HB := n8_
          clear n0_ n1_ n2_ n3_ n4_ n5_ n6_ n7_ n8_
          clear hb ho170
          refine ko hK (fun hHeld => ?_)
          clear hK K
          refine nm 54 ?_
          exact norm_ (by simp only [putAll, Act.put, List.setIfInBounds_toArray, List.set_cons_zero, List.set_cons_succ]) (hCont (v175, v178) _ ⟨hHeld, (by (with_reducible repeat (first | apply Kd.R_alloc | apply Kd.R_drewN | apply Kd.R_drew)); exact Kd.R_mono HO176.out (fun _ hk => hk.2)), (by (with_reducible repeat (first | apply Kd.R_alloc | apply Kd.R_drewN | apply Kd.R_drew)); exact Kd.R_mono HO179.out (fun _ hk => hk.2)), (kbx bK1), (kbx bK2), (kbx bK3), (kbx bK4), (kbx bK5), (kbx bK6), (hbx HB)⟩)
         rintro ⟨v175, v178⟩ w171 ⟨hS_, h0_, h1_, h2_, h3_, h4_, h5_, h6_, h7_, h8_⟩
         have HO176 := Aside0.mk h0_
         have HO179 := Aside0.mk h1_
         replace bK1 := Aside0.mk h2_
         replace bK2 := Aside0.mk h3_
         replace bK3 := Aside0.mk h4_
         replace bK4 := Aside0.mk h5_
         replace bK5 := Aside0.mk h6_
         replace bK6 := Aside0.mk h7_
         replace HB := Aside0.mk h8_
         clear h0_ h1_ h2_ h3_ h4_ h5_ h6_ h7_ h8_
         have hHeld := hS_
         obtain ⟨Ao172, co172, eo172⟩ := Kd.R_slice HO176.out
         (first | subst eo172 | (injection eo172 with f1_ f2_ f3_; have f4_ := f1_.symm; have f5_ := f3_.symm; clear f1_ f2_ f3_; subst f4_; subst f5_))
         obtain ⟨Ao173, co173, eo173⟩ := Kd.R_slice HO179.out
         (first | subst eo173 | (injection eo173 with f1_ f2_ f3_; have f4_ := f1_.symm; have f5_ := f3_.symm; clear f1_ f2_ f3_; subst f4_; subst f5_))
         refine norm_ (a' := ?_) ?_ ?_
         rotate_left
         ·simp only [putAll, Act.put, List.setIfInBounds_toArray, List.set_cons_zero, List.set_cons_succ]
          rfl
         refine oS 17 62 262143 (fun K hK => ?_)
         refine gO Try.func176 #[.slice Ao172 y174.length co172, .slice Ao173 y177.length co173] ?_
         with_reducible refine (spec_l6Sum.calls kj46 _ _ y174 _ _ y177 t180 _ ?side1 ?side2 ?side3 ?side4 A165.out).mono ?_
         (case side1 => repeat (first | exact (Kd.R_reads' HO176.out).2.2 | (with_reducible refine Kd.C_alloc ?_ _) | (with_reducible refine Kd.C_drewN ?_ _) | (with_reducible refine Kd.C_drew ?_)))
         (case side2 => exact (Kd.R_reads' HO176.out).2.1)
         (case side3 => repeat (first | exact (Kd.R_reads' HO179.out).2.2 | (with_reducible refine Kd.C_alloc ?_ _) | (with_reducible refine Kd.C_drewN ?_ _) | (with_reducible refine Kd.C_drew ?_)))
         (case side4 => exact (Kd.R_reads' HO179.out).2.1)
         rintro e w' ⟨rfl, ⟨nd, rfl⟩⟩
         refine ⟨_, rfl, ?_⟩
         refine ko hK (fun hHeld => ?_)
         clear hK K
         refine nm 62 ?_
         refine pS 18 6 524287 ?_
         refine done_ (done_of HT_.out (by kernel_rfl)) ?_
         try go_wp2
         go_ret
         exact fin HB
        rw [if_neg c164] at H
        by_cases c174 : x10_1 = 2
        ·subst c174
         have H1 : ((spec_l6Sum.f kj46 (([t157, t161, t165] : List Int)) (([a0_3, a1_3, a2_3] : List Int))).bind fun t187 => (some t187)) = some r := by rw [if_pos rfl] at H; exact H
         clear H
         have H := H1
         clear H1
         obtain ⟨y181, hy181⟩ : ∃ y_ : List Int, y_ = (([t157, t161, t165] : List Int)) := ⟨_, rfl⟩
         replace H : ((spec_l6Sum.f kj46 y181 (([a0_3, a1_3, a2_3] : List Int))).bind fun t187 => (some t187)) = some r := by first | (rw [hy181]; with_reducible exact H) | (have H2_ := (Option.bind_some _ _).symm.trans H; rw [hy181]; with_reducible exact H2_) | (have H2_ := (Option.bind_some _ _).symm.trans H; with_reducible exact H2_) | with_reducible exact H | (rw [hy181]; exact H) | exact H
         have Ny181 := Aside0.mk hy181
         clear hy181
         obtain ⟨y184, hy184⟩ : ∃ y_ : List Int, y_ = (([a0_3, a1_3, a2_3] : List Int)) := ⟨_, rfl⟩
         replace H : ((spec_l6Sum.f kj46 y181 y184).bind fun t187 => (some t187)) = some r := by first | (rw [hy184]; with_reducible exact H) | (have H2_ := (Option.bind_some _ _).symm.trans H; rw [hy184]; with_reducible exact H2_) | (have H2_ := (Option.bind_some _ _).symm.trans H; with_reducible exact H2_) | with_reducible exact H | (rw [hy184]; exact H) | exact H
         have Ny184 := Aside0.mk hy184
         clear hy184
         obtain ⟨t187, A175, H⟩ := bi H
         obtain rfl := Option.some.inj H
         try go_wp2
         replace bK1 := Aside0.mk (blk_drew bK1.out)
         replace bK2 := Aside0.mk (blk_drew bK2.out)
         replace bK3 := Aside0.mk (blk_drew bK3.out)
         replace bK4 := Aside0.mk (blk_drew bK4.out)
         replace bK5 := Aside0.mk (blk_drew bK5.out)
         replace bK6 := Aside0.mk (blk_drew bK6.out)
         replace HB := Aside0.mk (below_drew1 HB.out)
         refine start_ (n := 19) (S := fun w' => w'.cell? ⟨g4, 0, none⟩ = some (.int .i64 t155) ∧ w'.cell? ⟨g4, 1, none⟩ = some (.int .i64 t156) ∧ w'.cell? ⟨g4, 2, none⟩ = some (.int .i64 t157) ∧ w'.cell? ⟨g5, 0, none⟩ = some (.int .i64 t159) ∧ w'.cell? ⟨g5, 1, none⟩ = some (.int .i64 t160) ∧ w'.cell? ⟨g5, 2, none⟩ = some (.int .i64 t161) ∧ w'.cell? ⟨g6, 0, none⟩ = some (.int .i64 t163) ∧ w'.cell? ⟨g6, 1, none⟩ = some (.int .i64 t164) ∧ w'.cell? ⟨g6, 2, none⟩ = some (.int .i64 t165) ∧ w'.cell? ⟨g1, 0, none⟩ = some (.int .i64 a0_0) ∧ w'.cell? ⟨g1, 1, none⟩ = some (.int .i64 a0_1) ∧ w'.cell? ⟨g1, 2, none⟩ = some (.int .i64 a0_2) ∧ w'.cell? ⟨g1, 3, none⟩ = some (.int .i64 a0_3) ∧ w'.cell? ⟨g2, 0, none⟩ = some (.int .i64 a1_0) ∧ w'.cell? ⟨g2, 1, none⟩ = some (.int .i64 a1_1) ∧ w'.cell? ⟨g2, 2, none⟩ = some (.int .i64 a1_2) ∧ w'.cell? ⟨g2, 3, none⟩ = some (.int .i64 a1_3) ∧ w'.cell? ⟨g3, 0, none⟩ = some (.int .i64 a2_0) ∧ w'.cell? ⟨g3, 1, none⟩ = some (.int .i64 a2_1) ∧ w'.cell? ⟨g3, 2, none⟩ = some (.int .i64 a2_2) ∧ w'.cell? ⟨g3, 3, none⟩ = some (.int .i64 a2_3)) (ds := []) (bl 19 0) (by kernel_rfl) rfl rfl ⟨(blk_cell bK4.out 0).trans rfl, (blk_cell bK4.out 1).trans rfl, (blk_cell bK4.out 2).trans rfl, (blk_cell bK5.out 0).trans rfl, (blk_cell bK5.out 1).trans rfl, (blk_cell bK5.out 2).trans rfl, (blk_cell bK6.out 0).trans rfl, (blk_cell bK6.out 1).trans rfl, (blk_cell bK6.out 2).trans rfl, (blk_cell bK1.out 0).trans rfl, (blk_cell bK1.out 1).trans rfl, (blk_cell bK1.out 2).trans rfl, (blk_cell bK1.out 3).trans rfl, (blk_cell bK2.out 0).trans rfl, (blk_cell bK2.out 1).trans rfl, (blk_cell bK2.out 2).trans rfl, (blk_cell bK2.out 3).trans rfl, (blk_cell bK3.out 0).trans rfl, (blk_cell bK3.out 1).trans rfl, (blk_cell bK3.out 2).trans rfl, (blk_cell bK3.out 3).trans rfl⟩ (fun hHeld => ?_); refine with_tabW spec_l6Clash3.tab10 spec_l6Clash3.bits10 (fun HT_ HW_ => ?_)
         generalize wc.drew = w176 at bK1 bK2 bK3 bK4 bK5 bK6 HB hHeld ⊢
         refine pS 0 45 1 ?_
         refine pS 1 46 3 ?_
         refine pS 3 48 11 ?_
         refine pS 4 49 27 ?_
         refine pS 6 51 91 ?_
         refine pS 7 52 219 ?_
         refine pS 10 55 1243 ?_
         refine pS 12 57 5339 ?_
         refine pS 14 59 21723 ?_
         refine tS 2 47 21727 ?_
         refine tS 5 50 21759 ?_
         refine tS 8 53 22015 ?_
         refine tS 11 56 24063 ?_
         refine tS 13 58 32255 ?_
         refine tS 15 60 65023 ?_
         refine join_ (σ := Value × Value) 2 (bl 19 131071) (fun s_ => [(54, s_.1), (61, s_.2)]) (fun s_ w' => (w'.cell? ⟨g4, 0, none⟩ = some (.int .i64 t155) ∧ w'.cell? ⟨g4, 1, none⟩ = some (.int .i64 t156) ∧ w'.cell? ⟨g4, 2, none⟩ = some (.int .i64 t157) ∧ w'.cell? ⟨g5, 0, none⟩ = some (.int .i64 t159) ∧ w'.cell? ⟨g5, 1, none⟩ = some (.int .i64 t160) ∧ w'.cell? ⟨g5, 2, none⟩ = some (.int .i64 t161) ∧ w'.cell? ⟨g6, 0, none⟩ = some (.int .i64 t163) ∧ w'.cell? ⟨g6, 1, none⟩ = some (.int .i64 t164) ∧ w'.cell? ⟨g6, 2, none⟩ = some (.int .i64 t165) ∧ w'.cell? ⟨g1, 0, none⟩ = some (.int .i64 a0_0) ∧ w'.cell? ⟨g1, 1, none⟩ = some (.int .i64 a0_1) ∧ w'.cell? ⟨g1, 2, none⟩ = some (.int .i64 a0_2) ∧ w'.cell? ⟨g1, 3, none⟩ = some (.int .i64 a0_3) ∧ w'.cell? ⟨g2, 0, none⟩ = some (.int .i64 a1_0) ∧ w'.cell? ⟨g2, 1, none⟩ = some (.int .i64 a1_1) ∧ w'.cell? ⟨g2, 2, none⟩ = some (.int .i64 a1_2) ∧ w'.cell? ⟨g2, 3, none⟩ = some (.int .i64 a1_3) ∧ w'.cell? ⟨g3, 0, none⟩ = some (.int .i64 a2_0) ∧ w'.cell? ⟨g3, 1, none⟩ = some (.int .i64 a2_1) ∧ w'.cell? ⟨g3, 2, none⟩ = some (.int .i64 a2_2) ∧ w'.cell? ⟨g3, 3, none⟩ = some (.int .i64 a2_3)) ∧ (Kd.R (Kd.int .i64) 3 w' w.heap.size (fun k_ => some k_ ≠ (s_.2 : Value).ownBlock) s_.1 y181) ∧ (Kd.R (Kd.int .i64) 3 w' w.heap.size (fun k_ => some k_ ≠ (s_.1 : Value).ownBlock) s_.2 y184) ∧ (w'.heap[g1]? = some (.cells #[.int .i64 a0_0, .int .i64 a0_1, .int .i64 a0_2, .int .i64 a0_3] 23 (0, 0))) ∧ (w'.heap[g2]? = some (.cells #[.int .i64 a1_0, .int .i64 a1_1, .int .i64 a1_2, .int .i64 a1_3] 23 (0, 0))) ∧ (w'.heap[g3]? = some (.cells #[.int .i64 a2_0, .int .i64 a2_1, .int .i64 a2_2, .int .i64 a2_3] 23 (0, 0))) ∧ (w'.heap[g4]? = some (.cells #[.int .i64 t155, .int .i64 t156, .int .i64 t157] 128 (0, 0))) ∧ (w'.heap[g5]? = some (.cells #[.int .i64 t159, .int .i64 t160, .int .i64 t161] 128 (0, 0))) ∧ (w'.heap[g6]? = some (.cells #[.int .i64 t163, .int .i64 t164, .int .i64 t165] 128 (0, 0))) ∧ (Below w.heap.size w w')) ?_ ?_
         rotate_left
         ·intro hCont
          refine two_ (i := 9) (j := 16) (Ni := some 54) (Nj := some 61) (bl 19 65535) (bl 19 130559) rfl rfl rfl rfl (two_of HT_.out (by kernel_rfl)) (by decide) (by decide) (fun K hK => ?_) (fun K hK => ?_)
          ·skip
           refine Kd.R_lit_step (Kd.int .i64) _ 3 ?hg (N := 54) ?hd (xs := ([t157, t161, t165] : List Int)) (inner := [.int .i64 t157, .int .i64 t161, .int .i64 t165]) (ok := fun _ => True) (okp := fun _ => True) ?hr ?hp (fun _ hk => hk) trivial (Below.refl _ _) (Nat.le_refl _) (by simp) ?_; (case hd => rfl); (case hg => rfl); (case hr => first | (go_simp; done) | (go_simp; rfl)); (case hp => exact (Reps.one (show Kd.M (Kd.int .i64) _ _ _ t157 [.int .i64 t157] from rfl) (Reps.one (show Kd.M (Kd.int .i64) _ _ _ t161 [.int .i64 t161] from rfl) (Reps.one (show Kd.M (Kd.int .i64) _ _ _ t165 [.int .i64 t165] from rfl) (Reps.none _ _)))))
           intro v182 w177 ho178 hb hg_ hnew_
           clear hg_ hnew_
           (first | rw [← Ny181.out] at ho178 | (simp only [Int.reduceToNat] at ho178; rw [← Ny181.out] at ho178))
           have HO183 := Aside0.mk (Kd.R_lower ho178 (below_size (hbx HB)))
           replace bK1 := kb bK1 hb
           replace bK2 := kb bK2 hb
           replace bK3 := kb bK3 hb
           replace bK4 := kb bK4 hb
           replace bK5 := kb bK5 hb
           replace bK6 := kb bK6 hb
           replace HB := bt HB hb
           clear hb ho178
           refine ko hK (fun hHeld => ?_)
           clear hK K
           refine nm 54 ?_
           refine oS 16 61 131071 (fun K hK => ?_)
           refine Kd.R_lit_step (Kd.int .i64) _ 3 ?hg (N := 61) ?hd (xs := ([a0_3, a1_3, a2_3] : List Int)) (inner := [.int .i64 a0_3, .int .i64 a1_3, .int .i64 a2_3]) (ok := fun _ => True) (okp := fun _ => True) ?hr ?hp (fun _ hk => hk) trivial (Below.refl _ _) (Nat.le_refl _) (by simp) ?_; (case hd => rfl); (case hg => rfl); (case hr => first | (go_simp; done) | (go_simp; rfl)); (case hp => exact (Reps.one (show Kd.M (Kd.int .i64) _ _ _ a0_3 [.int .i64 a0_3] from rfl) (Reps.one (show Kd.M (Kd.int .i64) _ _ _ a1_3 [.int .i64 a1_3] from rfl) (Reps.one (show Kd.M (Kd.int .i64) _ _ _ a2_3 [.int .i64 a2_3] from rfl) (Reps.none _ _)))))
           intro v185 w179 ho180 hb hg_ hnew_
           clear hg_ hnew_
           (first | rw [← Ny184.out] at ho180 | (simp only [Int.reduceToNat] at ho180; rw [← Ny184.out] at ho180))
           have n0_ := Aside0.mk (Kd.R_elder' (by (with_reducible repeat (first | apply Kd.R_alloc | apply Kd.R_drewN | apply Kd.R_drew)); exact HO183.out) (Kd.R_base ho180) hb)
           have n1_ := Aside0.mk (Kd.R_lower (Kd.R_new' ho180 (Kd.R_lt (by (with_reducible repeat (first | apply Kd.R_alloc | apply Kd.R_drewN | apply Kd.R_drew)); exact HO183.out))) (below_size (hbx HB)))
           have n2_ := kb bK1 hb
           have n3_ := kb bK2 hb
           have n4_ := kb bK3 hb
           have n5_ := kb bK4 hb
           have n6_ := kb bK5 hb
           have n7_ := kb bK6 hb
           have n8_ := bt HB hb
           clear HO183
           clear bK1
           clear bK2
           clear bK3
           clear bK4
           clear bK5
           clear bK6
           clear HB
           have HO183 := n0_
           have HO186 := n1_
           have bK1 := n2_
           have bK2 := n3_
           have bK3 := n4_
           have bK4 := n5_
           have bK5 := n6_
           have bK6 := n7_
           have HB := n8_
           clear n0_ n1_ n2_ n3_ n4_ n5_ n6_ n7_ n8_
           clear hb ho180
           refine ko hK (fun hHeld => ?_)
           clear hK K
           refine nm 61 ?_
           exact norm_ (by simp only [putAll, Act.put, List.setIfInBounds_toArray, List.set_cons_zero, List.set_cons_succ]) (hCont (v182, v185) _ ⟨hHeld, (by (with_reducible repeat (first | apply Kd.R_alloc | apply Kd.R_drewN | apply Kd.R_drew)); exact Kd.R_mono HO183.out (fun _ hk => hk.2)), (by (with_reducible repeat (first | apply Kd.R_alloc | apply Kd.R_drewN | apply Kd.R_drew)); exact Kd.R_mono HO186.out (fun _ hk => hk.2)), (kbx bK1), (kbx bK2), (kbx bK3), (kbx bK4), (kbx bK5), (kbx bK6), (hbx HB)⟩)
          skip
          refine Kd.R_lit_step (Kd.int .i64) _ 3 ?hg (N := 61) ?hd (xs := ([a0_3, a1_3, a2_3] : List Int)) (inner := [.int .i64 a0_3, .int .i64 a1_3, .int .i64 a2_3]) (ok := fun _ => True) (okp := fun _ => True) ?hr ?hp (fun _ hk => hk) trivial (Below.refl _ _) (Nat.le_refl _) (by simp) ?_; (case hd => rfl); (case hg => rfl); (case hr => first | (go_simp; done) | (go_simp; rfl)); (case hp => exact (Reps.one (show Kd.M (Kd.int .i64) _ _ _ a0_3 [.int .i64 a0_3] from rfl) (Reps.one (show Kd.M (Kd.int .i64) _ _ _ a1_3 [.int .i64 a1_3] from rfl) (Reps.one (show Kd.M (Kd.int .i64) _ _ _ a2_3 [.int .i64 a2_3] from rfl) (Reps.none _ _)))))
          intro v185 w177 ho178 hb hg_ hnew_
          clear hg_ hnew_
          (first | rw [← Ny184.out] at ho178 | (simp only [Int.reduceToNat] at ho178; rw [← Ny184.out] at ho178))
          have HO186 := Aside0.mk (Kd.R_lower ho178 (below_size (hbx HB)))
          replace bK1 := kb bK1 hb
          replace bK2 := kb bK2 hb
          replace bK3 := kb bK3 hb
          replace bK4 := kb bK4 hb
          replace bK5 := kb bK5 hb
          replace bK6 := kb bK6 hb
          replace HB := bt HB hb
          clear hb ho178
          refine ko hK (fun hHeld => ?_)
          clear hK K
          refine nm 61 ?_
          refine oS 9 54 131071 (fun K hK => ?_)
          refine Kd.R_lit_step (Kd.int .i64) _ 3 ?hg (N := 54) ?hd (xs := ([t157, t161, t165] : List Int)) (inner := [.int .i64 t157, .int .i64 t161, .int .i64 t165]) (ok := fun _ => True) (okp := fun _ => True) ?hr ?hp (fun _ hk => hk) trivial (Below.refl _ _) (Nat.le_refl _) (by simp) ?_; (case hd => rfl); (case hg => rfl); (case hr => first | (go_simp; done) | (go_simp; rfl)); (case hp => exact (Reps.one (show Kd.M (Kd.int .i64) _ _ _ t157 [.int .i64 t157] from rfl) (Reps.one (show Kd.M (Kd.int .i64) _ _ _ t161 [.int .i64 t161] from rfl) (Reps.one (show Kd.M (Kd.int .i64) _ _ _ t165 [.int .i64 t165] from rfl) (Reps.none _ _)))))
          intro v182 w179 ho180 hb hg_ hnew_
          clear hg_ hnew_
          (first | rw [← Ny181.out] at ho180 | (simp only [Int.reduceToNat] at ho180; rw [← Ny181.out] at ho180))
          have n0_ := Aside0.mk (Kd.R_elder' (by (with_reducible repeat (first | apply Kd.R_alloc | apply Kd.R_drewN | apply Kd.R_drew)); exact HO186.out) (Kd.R_base ho180) hb)
          have n1_ := Aside0.mk (Kd.R_lower (Kd.R_new' ho180 (Kd.R_lt (by (with_reducible repeat (first | apply Kd.R_alloc | apply Kd.R_drewN | apply Kd.R_drew)); exact HO186.out))) (below_size (hbx HB)))
          have n2_ := kb bK1 hb
          have n3_ := kb bK2 hb
          have n4_ := kb bK3 hb
          have n5_ := kb bK4 hb
          have n6_ := kb bK5 hb
          have n7_ := kb bK6 hb
          have n8_ := bt HB hb
          clear HO186
          clear bK1
          clear bK2
          clear bK3
          clear bK4
          clear bK5
          clear bK6
          clear HB
          have HO186 := n0_
          have HO183 := n1_
          have bK1 := n2_
          have bK2 := n3_
          have bK3 := n4_
          have bK4 := n5_
          have bK5 := n6_
          have bK6 := n7_
          have HB := n8_
          clear n0_ n1_ n2_ n3_ n4_ n5_ n6_ n7_ n8_
          clear hb ho180
          refine ko hK (fun hHeld => ?_)
          clear hK K
          refine nm 54 ?_
          exact norm_ (by simp only [putAll, Act.put, List.setIfInBounds_toArray, List.set_cons_zero, List.set_cons_succ]) (hCont (v182, v185) _ ⟨hHeld, (by (with_reducible repeat (first | apply Kd.R_alloc | apply Kd.R_drewN | apply Kd.R_drew)); exact Kd.R_mono HO183.out (fun _ hk => hk.2)), (by (with_reducible repeat (first | apply Kd.R_alloc | apply Kd.R_drewN | apply Kd.R_drew)); exact Kd.R_mono HO186.out (fun _ hk => hk.2)), (kbx bK1), (kbx bK2), (kbx bK3), (kbx bK4), (kbx bK5), (kbx bK6), (hbx HB)⟩)
         rintro ⟨v182, v185⟩ w181 ⟨hS_, h0_, h1_, h2_, h3_, h4_, h5_, h6_, h7_, h8_⟩
         have HO183 := Aside0.mk h0_
         have HO186 := Aside0.mk h1_
         replace bK1 := Aside0.mk h2_
         replace bK2 := Aside0.mk h3_
         replace bK3 := Aside0.mk h4_
         replace bK4 := Aside0.mk h5_
         replace bK5 := Aside0.mk h6_
         replace bK6 := Aside0.mk h7_
         replace HB := Aside0.mk h8_
         clear h0_ h1_ h2_ h3_ h4_ h5_ h6_ h7_ h8_
         have hHeld := hS_
         obtain ⟨Ao182, co182, eo182⟩ := Kd.R_slice HO183.out
         (first | subst eo182 | (injection eo182 with f1_ f2_ f3_; have f4_ := f1_.symm; have f5_ := f3_.symm; clear f1_ f2_ f3_; subst f4_; subst f5_))
         obtain ⟨Ao183, co183, eo183⟩ := Kd.R_slice HO186.out
         (first | subst eo183 | (injection eo183 with f1_ f2_ f3_; have f4_ := f1_.symm; have f5_ := f3_.symm; clear f1_ f2_ f3_; subst f4_; subst f5_))
         refine norm_ (a' := ?_) ?_ ?_
         rotate_left
         ·simp only [putAll, Act.put, List.setIfInBounds_toArray, List.set_cons_zero, List.set_cons_succ]
          rfl
         refine oS 17 62 262143 (fun K hK => ?_)
         refine gO Try.func176 #[.slice Ao182 y181.length co182, .slice Ao183 y184.length co183] ?_
         with_reducible refine (spec_l6Sum.calls kj46 _ _ y181 _ _ y184 t187 _ ?side1 ?side2 ?side3 ?side4 A175.out).mono ?_
         (case side1 => repeat (first | exact (Kd.R_reads' HO183.out).2.2 | (with_reducible refine Kd.C_alloc ?_ _) | (with_reducible refine Kd.C_drewN ?_ _) | (with_reducible refine Kd.C_drew ?_)))
         (case side2 => exact (Kd.R_reads' HO183.out).2.1)
         (case side3 => repeat (first | exact (Kd.R_reads' HO186.out).2.2 | (with_reducible refine Kd.C_alloc ?_ _) | (with_reducible refine Kd.C_drewN ?_ _) | (with_reducible refine Kd.C_drew ?_)))
         (case side4 => exact (Kd.R_reads' HO186.out).2.1)
         rintro e w' ⟨rfl, ⟨nd, rfl⟩⟩
         refine ⟨_, rfl, ?_⟩
         refine ko hK (fun hHeld => ?_)
         clear hK K
         refine nm 62 ?_
         refine pS 18 6 524287 ?_
         refine done_ (done_of HT_.out (by kernel_rfl)) ?_
         try go_wp2
         go_ret
         exact fin HB
        rw [if_neg c174] at H
        exact absurd H (by simp)
       replace c153 := Bool.eq_false_iff.mpr c153
       subst c153
       have H1 : (spec_l6Clash3.l0 kj46 (wrap64 (x10_1 + 1)) a0_0 a0_1 a0_2 a0_3 a1_0 a1_1 a1_2 a1_3 a2_0 a2_1 a2_2 a2_3 t155 t156 t157 t159 t160 t161 t163 t164 t165) = some r := by rw [if_neg (show ¬ (false = true) by decide)] at H; exact H
       clear H
       have H := H1
       clear H1
       have H' := Aside0.mk H
       clear H
       go_wp2
       go_roundg kj46
       case measure => have := HK1.out; have := HJ46.out; omega
       case rel => exact ⟨(wrap64 (x10_1 + 1)), re, H', ⟨by have := HK1.out; have := HJ46.out; omega⟩, ⟨by (with_reducible repeat (first | refine blk_drewN ?_ _ | refine blk_drew ?_ | refine blk_alloc ?_ _)); exact bK1.out⟩, ⟨by (with_reducible repeat (first | refine blk_drewN ?_ _ | refine blk_drew ?_ | refine blk_alloc ?_ _)); exact bK2.out⟩, ⟨by (with_reducible repeat (first | refine blk_drewN ?_ _ | refine blk_drew ?_ | refine blk_alloc ?_ _)); exact bK3.out⟩, ⟨by (with_reducible repeat (first | refine blk_drewN ?_ _ | refine blk_drew ?_ | refine blk_alloc ?_ _)); exact bK4.out⟩, ⟨by (with_reducible repeat (first | refine blk_drewN ?_ _ | refine blk_drew ?_ | refine blk_alloc ?_ _)); exact bK5.out⟩, ⟨by (with_reducible repeat (first | refine blk_drewN ?_ _ | refine blk_drew ?_ | refine blk_alloc ?_ _)); exact bK6.out⟩, ⟨by repeat (first | (with_reducible first | exact HB.out | apply below_alloc | apply pw_below_drewN | apply below_drew1 | refine below_set ?_ bE1.out | refine below_set ?_ bE2.out | refine below_set ?_ bE3.out | refine below_set ?_ bE4.out | refine below_set ?_ bE5.out | refine below_set ?_ bE6.out) | exact HB.out)⟩⟩
    rw [if_neg c46] at H
    have c46b0 : decide (x10_1 < 3) = false := decide_eq_false c46
    clear c46
    obtain rfl := Option.some.inj H
    go_wp2
    go_ret
    exact fin HB
 rw [if_neg c5] at H
 have c5b0 : (t154 == 0) = false := beq_eq_false_iff_ne.mpr c5
 have c5b1 : (t154 != 0) = true := bne_iff_ne.mpr c5
 obtain rfl := Option.some.inj H
 go_enter Try.func162, Try.ntmps162
 go_wp2_with (first | ((with_reducible refine gate_dst (N := 3) rfl ?_); refine box_event ?hg (N := 3) ?hd (cs := #[.int .i64 a0_0, .int .i64 a0_1, .int .i64 a0_2, .int .i64 a0_3]) (t := 23) ?hr ?_; (case hd => rfl); (case hg => rfl); (case hr => first | (go_simp; done) | (go_simp; rfl)); intro g1 hg w184 hbox hb; have bK1 := Aside0.mk (hbox); have bW1 := gx hg HB; have bE1 := gx hg HB; replace HB := bt HB hb; clear hb hbox hg) | ((with_reducible refine gate_dst (N := 4) rfl ?_); refine box_event ?hg (N := 4) ?hd (cs := #[.int .i64 a1_0, .int .i64 a1_1, .int .i64 a1_2, .int .i64 a1_3]) (t := 23) ?hr ?_; (case hd => rfl); (case hg => rfl); (case hr => first | (go_simp; done) | (go_simp; rfl)); intro g2 hg w185 hbox hb; have n0_ := kb bK1 hb; have n1_ := bt HB hb; have n2_ := Aside0.mk (hbox); have n3_ := gx hg HB; have n4_ := gx hg HB; have n5_ := nl hg bK1; have n6_ := nr hg bK1; clear bK1; clear HB; have bK1 := n0_; have HB := n1_; have bK2 := n2_; have bW2 := n3_; have bE2 := n4_; have bN1_2 := n5_; have bN2_1 := n6_; clear n0_ n1_ n2_ n3_ n4_ n5_ n6_; clear hb hbox hg) | ((with_reducible refine gate_dst (N := 5) rfl ?_); refine box_event ?hg (N := 5) ?hd (cs := #[.int .i64 a2_0, .int .i64 a2_1, .int .i64 a2_2, .int .i64 a2_3]) (t := 23) ?hr ?_; (case hd => rfl); (case hg => rfl); (case hr => first | (go_simp; done) | (go_simp; rfl)); intro g3 hg w186 hbox hb; have n0_ := kb bK1 hb; have n1_ := kb bK2 hb; have n2_ := bt HB hb; have n3_ := Aside0.mk (hbox); have n4_ := gx hg HB; have n5_ := gx hg HB; have n6_ := nl hg bK1; have n7_ := nr hg bK1; have n8_ := nl hg bK2; have n9_ := nr hg bK2; clear bK1; clear bK2; clear HB; have bK1 := n0_; have bK2 := n1_; have HB := n2_; have bK3 := n3_; have bW3 := n4_; have bE3 := n5_; have bN1_3 := n6_; have bN3_1 := n7_; have bN2_3 := n8_; have bN3_2 := n9_; clear n0_ n1_ n2_ n3_ n4_ n5_ n6_ n7_ n8_ n9_; clear hb hbox hg; have hnb187 := bN1_2.out; have hnc187 := bN2_1.out; have hnb188 := bN1_3.out; have hnc188 := bN3_1.out; obtain ⟨hcz189_0, hcz189_1, hcz189_2, hcz189_3, hfz189_0, hfz189_1, hfz189_2, hfz189_3⟩ := cz4 bK1; have hnb190 := bN2_3.out; have hnc190 := bN3_2.out; obtain ⟨hcz191_0, hcz191_1, hcz191_2, hcz191_3, hfz191_0, hfz191_1, hfz191_2, hfz191_3⟩ := cz4 bK2; obtain ⟨hcz192_0, hcz192_1, hcz192_2, hcz192_3, hfz192_0, hfz192_1, hfz192_2, hfz192_3⟩ := cz4 bK3) | ((with_reducible refine gate_callee (f := 169) rfl ?_); refine gL 14 Try.func169 #[.agg #[.int .i64 a0_0, .int .i64 a0_1, .int .i64 a0_2, .int .i64 a0_3], .agg #[.int .i64 a1_0, .int .i64 a1_1, .int .i64 a1_2, .int .i64 a1_3], .agg #[.int .i64 a2_0, .int .i64 a2_1, .int .i64 a2_2, .int .i64 a2_3]] ?_; (with_reducible refine (spec_l4Det3.calls a0_0 a0_1 a0_2 a0_3 a1_0 a1_1 a1_2 a1_3 a2_0 a2_1 a2_2 a2_3 t154 _ A4.out).mono ?_); rintro e w193 ⟨rfl, hb⟩; refine ⟨_, rfl, ?_⟩; replace bK1 := kb bK1 hb; replace bK2 := kb bK2 hb; replace bK3 := kb bK3 hb; replace HB := bt HB hb; (try clear hb); (try clear hb2); (try clear hk); (try clear hi)))
 go_ret
 exact fin HB

end Go.Proofs.Ytndedincanmaeaa.Print
