-- Printed by a program of the session (mkprinter.py, over the kit's print); Lean checks it.
import Derived.Test.YtndedincanmaeaaCp
import Derived.Test.YtndedincanmaeaaPrint0
import Derived.Test.YtndedincanmaeaaPrint6
namespace Go.Proofs.Ytndedincanmaeaa.Print
open Go.RowKit Go.Proofs.YtndedincanmaeaaW.PrintWords Go.Proofs.YtndedincanmaeaaW.PrintLast Go.Proofs.Ytndedincanmaeaa.Cp
set_option linter.unusedVariables false
set_option linter.unusedSimpArgs false

/-! ### spec_l6Clash4: function 163 -/
def spec_l6Clash4.f (k : Nat) (a0_0 : Int) (a0_1 : Int) (a0_2 : Int) (a0_3 : Int) (a1_0 : Int) (a1_1 : Int) (a1_2 : Int) (a1_3 : Int) (a2_0 : Int) (a2_1 : Int) (a2_2 : Int) (a2_3 : Int) (a3_0 : Int) (a3_1 : Int) (a3_2 : Int) (a3_3 : Int) : Option (Bool) := (spec_l4Det3.f a1_0 a1_1 a1_2 a1_3 a2_0 a2_1 a2_2 a2_3 a3_0 a3_1 a3_2 a3_3).bind fun t192 => ((spec_l4Det3.f a0_0 a0_1 a0_2 a0_3 a2_0 a2_1 a2_2 a2_3 a3_0 a3_1 a3_2 a3_3).bind fun t193 => ((spec_l4Det3.f a0_0 a0_1 a0_2 a0_3 a1_0 a1_1 a1_2 a1_3 a3_0 a3_1 a3_2 a3_3).bind fun t194 => ((spec_l4Det3.f a0_0 a0_1 a0_2 a0_3 a1_0 a1_1 a1_2 a1_3 a2_0 a2_1 a2_2 a2_3).bind fun t195 => ((spec_l6Sum.f k (([t192, wrap64 (-t193), t194, wrap64 (-t195)] : List Int)) (([a0_3, a1_3, a2_3, a3_3] : List Int))).bind fun t202 => (some t202)))))
theorem spec_l6Clash4.mono : ∀ a0 a1 a2 a3 a4 a5 a6 a7 a8 a9 a10 a11 a12 a13 a14 a15 k, LeO (spec_l6Clash4.f k a0 a1 a2 a3 a4 a5 a6 a7 a8 a9 a10 a11 a12 a13 a14 a15) (spec_l6Clash4.f (k + 1) a0 a1 a2 a3 a4 a5 a6 a7 a8 a9 a10 a11 a12 a13 a14 a15) := by
 intro a0 a1 a2 a3 a4 a5 a6 a7 a8 a9 a10 a11 a12 a13 a14 a15 k
 unfold spec_l6Clash4.f
 repeat' first
   | (with_reducible exact spec_l6Sum.mono _ _ _)
   | (with_reducible exact LeO.refl _)
   | (with_reducible exact LeO.none _)
   | (with_reducible refine LeO.ite ?_ ?_)
   | (with_reducible refine LeO.bind ?_ (fun _ => ?_))
   | exact spec_l6Sum.mono _ _ _
   | exact LeO.none _
   | refine LeO.ite ?_ ?_
   | refine LeO.bind ?_ (fun _ => ?_)
def spec_l6Clash4.T1 : Bool × List (List Nat × List Nat) := (true, [([], []), ([], []), ([], []), ([0, 1, 2], [0, 1, 2]), ([], []), ([], []), ([], []), ([4, 5, 6, 3], [4, 5, 6]), ([7], [7]), ([], []), ([], []), ([], []), ([9, 10, 11, 7], [9, 10, 11]), ([], []), ([], []), ([], []), ([13, 14, 15, 12], [13, 14, 15]), ([16], [16]), ([3, 8, 12, 17], [3, 8, 12, 17]), ([18, 16, 0, 1, 2, 3, 4, 5, 6, 7, 8, 9, 10, 11, 12, 13, 14, 15, 16, 17, 18], [18])])
def spec_l6Clash4.B1 : List Nat := [0, 0, 0, 7, 0, 0, 0, 127, 255, 0, 0, 0, 3839, 0, 0, 0, 65279, 130815, 262143, 524287]
theorem spec_l6Clash4.tab1 : rtab .any (opsOf Try.f163 1) = spec_l6Clash4.T1 := by kernel_rfl
theorem spec_l6Clash4.bits1 : waitsOk spec_l6Clash4.T1.2 spec_l6Clash4.B1 = true := by kernel_rfl
set_option maxHeartbeats 8000000 in
set_option maxRecDepth 100000 in
theorem spec_l6Clash4.calls (k : Nat) (a0_0 : Int) (a0_1 : Int) (a0_2 : Int) (a0_3 : Int) (a1_0 : Int) (a1_1 : Int) (a1_2 : Int) (a1_3 : Int) (a2_0 : Int) (a2_1 : Int) (a2_2 : Int) (a2_3 : Int) (a3_0 : Int) (a3_1 : Int) (a3_2 : Int) (a3_3 : Int) (r : Bool) (w : World) (h : spec_l6Clash4.f k a0_0 a0_1 a0_2 a0_3 a1_0 a1_1 a1_2 a1_3 a2_0 a2_1 a2_2 a2_3 a3_0 a3_1 a3_2 a3_3 = some r) :
  Calls Try.prog 163 #[.agg #[.int .i64 a0_0, .int .i64 a0_1, .int .i64 a0_2, .int .i64 a0_3], .agg #[.int .i64 a1_0, .int .i64 a1_1, .int .i64 a1_2, .int .i64 a1_3], .agg #[.int .i64 a2_0, .int .i64 a2_1, .int .i64 a2_2, .int .i64 a2_3], .agg #[.int .i64 a3_0, .int .i64 a3_1, .int .i64 a3_2, .int .i64 a3_3]] w fun e w' => e = .returned (.bool r) ∧ Below w.heap.size w w' := by
 have hu23 := Try.underlying23
 have HB := Aside0.mk (Below.refl w.heap.size w)
 have H : ((spec_l4Det3.f a1_0 a1_1 a1_2 a1_3 a2_0 a2_1 a2_2 a2_3 a3_0 a3_1 a3_2 a3_3).bind fun t192 => ((spec_l4Det3.f a0_0 a0_1 a0_2 a0_3 a2_0 a2_1 a2_2 a2_3 a3_0 a3_1 a3_2 a3_3).bind fun t193 => ((spec_l4Det3.f a0_0 a0_1 a0_2 a0_3 a1_0 a1_1 a1_2 a1_3 a3_0 a3_1 a3_2 a3_3).bind fun t194 => ((spec_l4Det3.f a0_0 a0_1 a0_2 a0_3 a1_0 a1_1 a1_2 a1_3 a2_0 a2_1 a2_2 a2_3).bind fun t195 => ((spec_l6Sum.f k (([t192, wrap64 (-t193), t194, wrap64 (-t195)] : List Int)) (([a0_3, a1_3, a2_3, a3_3] : List Int))).bind fun t202 => (some t202)))))) = some r := h
 clear h
 obtain ⟨t192, A5, H⟩ := bi H
 obtain ⟨t193, A6, H⟩ := bi H
 obtain ⟨t194, A7, H⟩ := bi H
 obtain ⟨t195, A8, H⟩ := bi H
 obtain ⟨y196, hy196⟩ : ∃ y_ : List Int, y_ = (([t192, wrap64 (-t193), t194, wrap64 (-t195)] : List Int)) := ⟨_, rfl⟩
 replace H : ((spec_l6Sum.f k y196 (([a0_3, a1_3, a2_3, a3_3] : List Int))).bind fun t202 => (some t202)) = some r := by first | (rw [hy196]; with_reducible exact H) | (have H2_ := (Option.bind_some _ _).symm.trans H; rw [hy196]; with_reducible exact H2_) | (have H2_ := (Option.bind_some _ _).symm.trans H; with_reducible exact H2_) | with_reducible exact H | (rw [hy196]; exact H) | exact H
 have Ny196 := Aside0.mk hy196
 clear hy196
 obtain ⟨y199, hy199⟩ : ∃ y_ : List Int, y_ = (([a0_3, a1_3, a2_3, a3_3] : List Int)) := ⟨_, rfl⟩
 replace H : ((spec_l6Sum.f k y196 y199).bind fun t202 => (some t202)) = some r := by first | (rw [hy199]; with_reducible exact H) | (have H2_ := (Option.bind_some _ _).symm.trans H; rw [hy199]; with_reducible exact H2_) | (have H2_ := (Option.bind_some _ _).symm.trans H; with_reducible exact H2_) | with_reducible exact H | (rw [hy199]; exact H) | exact H
 have Ny199 := Aside0.mk hy199
 clear hy199
 obtain ⟨t202, A9, H⟩ := bi H
 obtain rfl := Option.some.inj H
 go_enter Try.func163, Try.ntmps163
 try go_wp2_with (first | ((with_reducible refine gate_dst (N := 4) rfl ?_); refine box_event ?hg (N := 4) ?hd (cs := #[.int .i64 a0_0, .int .i64 a0_1, .int .i64 a0_2, .int .i64 a0_3]) (t := 23) ?hr ?_; (case hd => rfl); (case hg => rfl); (case hr => first | (go_simp; done) | (go_simp; rfl)); intro g1 hg w10 hbox hb; have bK1 := Aside0.mk (hbox); have bW1 := gx hg HB; have bE1 := gx hg HB; replace HB := bt HB hb; clear hb hbox hg) | ((with_reducible refine gate_dst (N := 5) rfl ?_); refine box_event ?hg (N := 5) ?hd (cs := #[.int .i64 a1_0, .int .i64 a1_1, .int .i64 a1_2, .int .i64 a1_3]) (t := 23) ?hr ?_; (case hd => rfl); (case hg => rfl); (case hr => first | (go_simp; done) | (go_simp; rfl)); intro g2 hg w11 hbox hb; have n0_ := kb bK1 hb; have n1_ := bt HB hb; have n2_ := Aside0.mk (hbox); have n3_ := gx hg HB; have n4_ := gx hg HB; have n5_ := nl hg bK1; have n6_ := nr hg bK1; clear bK1; clear HB; have bK1 := n0_; have HB := n1_; have bK2 := n2_; have bW2 := n3_; have bE2 := n4_; have bN1_2 := n5_; have bN2_1 := n6_; clear n0_ n1_ n2_ n3_ n4_ n5_ n6_; clear hb hbox hg) | ((with_reducible refine gate_dst (N := 6) rfl ?_); refine box_event ?hg (N := 6) ?hd (cs := #[.int .i64 a2_0, .int .i64 a2_1, .int .i64 a2_2, .int .i64 a2_3]) (t := 23) ?hr ?_; (case hd => rfl); (case hg => rfl); (case hr => first | (go_simp; done) | (go_simp; rfl)); intro g3 hg w12 hbox hb; have n0_ := kb bK1 hb; have n1_ := kb bK2 hb; have n2_ := bt HB hb; have n3_ := Aside0.mk (hbox); have n4_ := gx hg HB; have n5_ := gx hg HB; have n6_ := nl hg bK1; have n7_ := nr hg bK1; have n8_ := nl hg bK2; have n9_ := nr hg bK2; clear bK1; clear bK2; clear HB; have bK1 := n0_; have bK2 := n1_; have HB := n2_; have bK3 := n3_; have bW3 := n4_; have bE3 := n5_; have bN1_3 := n6_; have bN3_1 := n7_; have bN2_3 := n8_; have bN3_2 := n9_; clear n0_ n1_ n2_ n3_ n4_ n5_ n6_ n7_ n8_ n9_; clear hb hbox hg) | ((with_reducible refine gate_dst (N := 7) rfl ?_); refine box_event ?hg (N := 7) ?hd (cs := #[.int .i64 a3_0, .int .i64 a3_1, .int .i64 a3_2, .int .i64 a3_3]) (t := 23) ?hr ?_; (case hd => rfl); (case hg => rfl); (case hr => first | (go_simp; done) | (go_simp; rfl)); intro g4 hg w13 hbox hb; have n0_ := kb bK1 hb; have n1_ := kb bK2 hb; have n2_ := kb bK3 hb; have n3_ := bt HB hb; have n4_ := Aside0.mk (hbox); have n5_ := gx hg HB; have n6_ := gx hg HB; have n7_ := nl hg bK1; have n8_ := nr hg bK1; have n9_ := nl hg bK2; have n10_ := nr hg bK2; have n11_ := nl hg bK3; have n12_ := nr hg bK3; clear bK1; clear bK2; clear bK3; clear HB; have bK1 := n0_; have bK2 := n1_; have bK3 := n2_; have HB := n3_; have bK4 := n4_; have bW4 := n5_; have bE4 := n6_; have bN1_4 := n7_; have bN4_1 := n8_; have bN2_4 := n9_; have bN4_2 := n10_; have bN3_4 := n11_; have bN4_3 := n12_; clear n0_ n1_ n2_ n3_ n4_ n5_ n6_ n7_ n8_ n9_ n10_ n11_ n12_; clear hb hbox hg))
 replace bK1 := Aside0.mk (blk_drew bK1.out)
 replace bK2 := Aside0.mk (blk_drew bK2.out)
 replace bK3 := Aside0.mk (blk_drew bK3.out)
 replace bK4 := Aside0.mk (blk_drew bK4.out)
 replace HB := Aside0.mk (below_drew1 HB.out)
 refine start_ (n := 20) (S := fun w' => w'.cell? ⟨g2, 0, none⟩ = some (.int .i64 a1_0) ∧ w'.cell? ⟨g2, 1, none⟩ = some (.int .i64 a1_1) ∧ w'.cell? ⟨g2, 2, none⟩ = some (.int .i64 a1_2) ∧ w'.cell? ⟨g2, 3, none⟩ = some (.int .i64 a1_3) ∧ w'.cell? ⟨g3, 0, none⟩ = some (.int .i64 a2_0) ∧ w'.cell? ⟨g3, 1, none⟩ = some (.int .i64 a2_1) ∧ w'.cell? ⟨g3, 2, none⟩ = some (.int .i64 a2_2) ∧ w'.cell? ⟨g3, 3, none⟩ = some (.int .i64 a2_3) ∧ w'.cell? ⟨g4, 0, none⟩ = some (.int .i64 a3_0) ∧ w'.cell? ⟨g4, 1, none⟩ = some (.int .i64 a3_1) ∧ w'.cell? ⟨g4, 2, none⟩ = some (.int .i64 a3_2) ∧ w'.cell? ⟨g4, 3, none⟩ = some (.int .i64 a3_3) ∧ w'.cell? ⟨g1, 0, none⟩ = some (.int .i64 a0_0) ∧ w'.cell? ⟨g1, 1, none⟩ = some (.int .i64 a0_1) ∧ w'.cell? ⟨g1, 2, none⟩ = some (.int .i64 a0_2) ∧ w'.cell? ⟨g1, 3, none⟩ = some (.int .i64 a0_3)) (ds := []) (bl 20 0) (by kernel_rfl) rfl rfl ⟨(blk_cell bK2.out 0).trans rfl, (blk_cell bK2.out 1).trans rfl, (blk_cell bK2.out 2).trans rfl, (blk_cell bK2.out 3).trans rfl, (blk_cell bK3.out 0).trans rfl, (blk_cell bK3.out 1).trans rfl, (blk_cell bK3.out 2).trans rfl, (blk_cell bK3.out 3).trans rfl, (blk_cell bK4.out 0).trans rfl, (blk_cell bK4.out 1).trans rfl, (blk_cell bK4.out 2).trans rfl, (blk_cell bK4.out 3).trans rfl, (blk_cell bK1.out 0).trans rfl, (blk_cell bK1.out 1).trans rfl, (blk_cell bK1.out 2).trans rfl, (blk_cell bK1.out 3).trans rfl⟩ (fun hHeld => ?_); refine with_tabW spec_l6Clash4.tab1 spec_l6Clash4.bits1 (fun HT_ HW_ => ?_)
 generalize w13.drew = w14 at bK1 bK2 bK3 bK4 HB hHeld ⊢
 refine tS 0 10 1 ?_
 refine tS 1 11 3 ?_
 refine tS 2 12 7 ?_
 refine tS 4 14 23 ?_
 refine tS 5 15 55 ?_
 refine tS 6 16 119 ?_
 refine tS 9 19 631 ?_
 refine tS 10 20 1655 ?_
 refine tS 11 21 3703 ?_
 refine tS 13 23 11895 ?_
 refine tS 14 24 28279 ?_
 refine tS 15 25 61047 ?_
 refine oS 3 13 61055 (fun K hK => ?_)
 refine gO Try.func169 #[.agg #[.int .i64 a1_0, .int .i64 a1_1, .int .i64 a1_2, .int .i64 a1_3], .agg #[.int .i64 a2_0, .int .i64 a2_1, .int .i64 a2_2, .int .i64 a2_3], .agg #[.int .i64 a3_0, .int .i64 a3_1, .int .i64 a3_2, .int .i64 a3_3]] ?_
 with_reducible refine (spec_l4Det3.calls a1_0 a1_1 a1_2 a1_3 a2_0 a2_1 a2_2 a2_3 a3_0 a3_1 a3_2 a3_3 t192 _ A5.out).mono ?_
 rintro e w15 ⟨rfl, hb⟩
 refine ⟨_, rfl, ?_⟩
 replace bK1 := kb bK1 hb
 replace bK2 := kb bK2 hb
 replace bK3 := kb bK3 hb
 replace bK4 := kb bK4 hb
 replace HB := bt HB hb
 (try clear hb)
 (try clear hb2)
 (try clear hk)
 (try clear hi)
 refine ko hK (fun hHeld => ?_)
 clear hK K
 refine nm 13 ?_
 refine oS 7 17 61183 (fun K hK => ?_)
 refine gO Try.func169 #[.agg #[.int .i64 a0_0, .int .i64 a0_1, .int .i64 a0_2, .int .i64 a0_3], .agg #[.int .i64 a2_0, .int .i64 a2_1, .int .i64 a2_2, .int .i64 a2_3], .agg #[.int .i64 a3_0, .int .i64 a3_1, .int .i64 a3_2, .int .i64 a3_3]] ?_
 with_reducible refine (spec_l4Det3.calls a0_0 a0_1 a0_2 a0_3 a2_0 a2_1 a2_2 a2_3 a3_0 a3_1 a3_2 a3_3 t193 _ A6.out).mono ?_
 rintro e w16 ⟨rfl, hb⟩
 refine ⟨_, rfl, ?_⟩
 replace bK1 := kb bK1 hb
 replace bK2 := kb bK2 hb
 replace bK3 := kb bK3 hb
 replace bK4 := kb bK4 hb
 replace HB := bt HB hb
 (try clear hb)
 (try clear hb2)
 (try clear hk)
 (try clear hi)
 refine ko hK (fun hHeld => ?_)
 clear hK K
 refine nm 17 ?_
 refine pS 8 18 61439 ?_
 refine oS 12 22 65535 (fun K hK => ?_)
 refine gO Try.func169 #[.agg #[.int .i64 a0_0, .int .i64 a0_1, .int .i64 a0_2, .int .i64 a0_3], .agg #[.int .i64 a1_0, .int .i64 a1_1, .int .i64 a1_2, .int .i64 a1_3], .agg #[.int .i64 a3_0, .int .i64 a3_1, .int .i64 a3_2, .int .i64 a3_3]] ?_
 with_reducible refine (spec_l4Det3.calls a0_0 a0_1 a0_2 a0_3 a1_0 a1_1 a1_2 a1_3 a3_0 a3_1 a3_2 a3_3 t194 _ A7.out).mono ?_
 rintro e w17 ⟨rfl, hb⟩
 refine ⟨_, rfl, ?_⟩
 replace bK1 := kb bK1 hb
 replace bK2 := kb bK2 hb
 replace bK3 := kb bK3 hb
 replace bK4 := kb bK4 hb
 replace HB := bt HB hb
 (try clear hb)
 (try clear hb2)
 (try clear hk)
 (try clear hi)
 refine ko hK (fun hHeld => ?_)
 clear hK K
 refine nm 22 ?_
 refine oS 16 26 131071 (fun K hK => ?_)
 refine gO Try.func169 #[.agg #[.int .i64 a0_0, .int .i64 a0_1, .int .i64 a0_2, .int .i64 a0_3], .agg #[.int .i64 a1_0, .int .i64 a1_1, .int .i64 a1_2, .int .i64 a1_3], .agg #[.int .i64 a2_0, .int .i64 a2_1, .int .i64 a2_2, .int .i64 a2_3]] ?_
 with_reducible refine (spec_l4Det3.calls a0_0 a0_1 a0_2 a0_3 a1_0 a1_1 a1_2 a1_3 a2_0 a2_1 a2_2 a2_3 t195 _ A8.out).mono ?_
 rintro e w18 ⟨rfl, hb⟩
 refine ⟨_, rfl, ?_⟩
 replace bK1 := kb bK1 hb
 replace bK2 := kb bK2 hb
 replace bK3 := kb bK3 hb
 replace bK4 := kb bK4 hb
 replace HB := bt HB hb
 (try clear hb)
 (try clear hb2)
 (try clear hk)
 (try clear hi)
 refine ko hK (fun hHeld => ?_)
 clear hK K
 refine nm 26 ?_
 refine pS 17 27 262143 ?_
 refine oS 18 28 524287 (fun K hK => ?_)
 refine Kd.R_lit_step (Kd.int .i64) _ 3 ?hg (N := 28) ?hd (xs := ([t192, wrap64 (-t193), t194, wrap64 (-t195)] : List Int)) (inner := [.int .i64 t192, .int .i64 (wrap64 (-t193)), .int .i64 t194, .int .i64 (wrap64 (-t195))]) (ok := fun _ => True) (okp := fun _ => True) ?hr ?hp (fun _ hk => hk) trivial (Below.refl _ _) (Nat.le_refl _) (by simp) ?_; (case hd => rfl); (case hg => rfl); (case hr => first | (go_simp; done) | (go_simp; rfl)); (case hp => exact (Reps.one (show Kd.M (Kd.int .i64) _ _ _ t192 [.int .i64 t192] from rfl) (Reps.one (show Kd.M (Kd.int .i64) _ _ _ (wrap64 (-t193)) [.int .i64 (wrap64 (-t193))] from rfl) (Reps.one (show Kd.M (Kd.int .i64) _ _ _ t194 [.int .i64 t194] from rfl) (Reps.one (show Kd.M (Kd.int .i64) _ _ _ (wrap64 (-t195)) [.int .i64 (wrap64 (-t195))] from rfl) (Reps.none _ _))))))
 intro v197 w19 ho20 hb hg_ hnew_
 clear hg_ hnew_
 (first | rw [← Ny196.out] at ho20 | (simp only [Int.reduceToNat] at ho20; rw [← Ny196.out] at ho20))
 have HO198 := Aside0.mk (Kd.R_lower ho20 (below_size (hbx HB)))
 replace bK1 := kb bK1 hb
 replace bK2 := kb bK2 hb
 replace bK3 := kb bK3 hb
 replace bK4 := kb bK4 hb
 replace HB := bt HB hb
 clear hb ho20
 refine ko hK (fun hHeld => ?_)
 clear hK K
 refine nm 28 ?_
 refine pS 19 9 1048575 ?_
 refine done_ (done_of HT_.out (by kernel_rfl)) ?_
 have hnb21 := bN1_2.out
 have hnc21 := bN2_1.out
 have hnb22 := bN1_3.out
 have hnc22 := bN3_1.out
 have hnb23 := bN1_4.out
 have hnc23 := bN4_1.out
 obtain ⟨hcz24_0, hcz24_1, hcz24_2, hcz24_3, hfz24_0, hfz24_1, hfz24_2, hfz24_3⟩ := cz4 bK1
 have hnb25 := bN2_3.out
 have hnc25 := bN3_2.out
 have hnb26 := bN2_4.out
 have hnc26 := bN4_2.out
 obtain ⟨hcz27_0, hcz27_1, hcz27_2, hcz27_3, hfz27_0, hfz27_1, hfz27_2, hfz27_3⟩ := cz4 bK2
 have hnb28 := bN3_4.out
 have hnc28 := bN4_3.out
 obtain ⟨hcz29_0, hcz29_1, hcz29_2, hcz29_3, hfz29_0, hfz29_1, hfz29_2, hfz29_3⟩ := cz4 bK3
 obtain ⟨hcz30_0, hcz30_1, hcz30_2, hcz30_3, hfz30_0, hfz30_1, hfz30_2, hfz30_3⟩ := cz4 bK4
 try go_wp2_with (first | ((with_reducible refine gate_dst (N := 38) rfl ?_); refine Kd.R_lit (Kd.int .i64) _ 3 ?hg (N := 38) ?hd (xs := ([a0_3, a1_3, a2_3, a3_3] : List Int)) (inner := [.int .i64 a0_3, .int .i64 a1_3, .int .i64 a2_3, .int .i64 a3_3]) (ok := fun _ => True) (okp := fun _ => True) ?hr ?hp (fun _ hk => hk) trivial (Below.refl _ _) (Nat.le_refl _) (by simp) ?_; (case hd => rfl); (case hg => rfl); (case hr => first | (go_simp; done) | (go_simp; rfl)); (case hp => exact (Reps.one (show Kd.M (Kd.int .i64) _ _ _ a0_3 [.int .i64 a0_3] from rfl) (Reps.one (show Kd.M (Kd.int .i64) _ _ _ a1_3 [.int .i64 a1_3] from rfl) (Reps.one (show Kd.M (Kd.int .i64) _ _ _ a2_3 [.int .i64 a2_3] from rfl) (Reps.one (show Kd.M (Kd.int .i64) _ _ _ a3_3 [.int .i64 a3_3] from rfl) (Reps.none _ _)))))); intro v200 w31 ho32 hb hg_ hnew_; clear hg_ hnew_; (first | rw [← Ny199.out] at ho32 | (simp only [Int.reduceToNat] at ho32; rw [← Ny199.out] at ho32)); have n0_ := Aside0.mk (Kd.R_elder' (by (with_reducible repeat (first | apply Kd.R_alloc | apply Kd.R_drewN | apply Kd.R_drew)); exact HO198.out) (Kd.R_base ho32) hb); have n1_ := Aside0.mk (Kd.R_lower (Kd.R_new' ho32 (Kd.R_lt (by (with_reducible repeat (first | apply Kd.R_alloc | apply Kd.R_drewN | apply Kd.R_drew)); exact HO198.out))) (below_size (hbx HB))); have n2_ := kb bK1 hb; have n3_ := kb bK2 hb; have n4_ := kb bK3 hb; have n5_ := kb bK4 hb; have n6_ := bt HB hb; clear HO198; clear bK1; clear bK2; clear bK3; clear bK4; clear HB; have HO198 := n0_; have HO201 := n1_; have bK1 := n2_; have bK2 := n3_; have bK3 := n4_; have bK4 := n5_; have HB := n6_; clear n0_ n1_ n2_ n3_ n4_ n5_ n6_; clear hb ho32; obtain ⟨Ao33, co33, eo33⟩ := Kd.R_slice HO198.out; subst eo33; obtain ⟨Ao34, co34, eo34⟩ := Kd.R_slice HO201.out; subst eo34) | ((with_reducible refine gate_callee (f := 176) rfl ?_); refine gL 39 Try.func176 #[.slice Ao33 y196.length co33, .slice Ao34 y199.length co34] ?_; (with_reducible refine (spec_l6Sum.calls k _ _ y196 _ _ y199 t202 _ ?side1 ?side2 ?side3 ?side4 A9.out).mono ?_); (case side1 => repeat (first | exact (Kd.R_reads' HO198.out).2.2 | (with_reducible refine Kd.C_alloc ?_ _) | (with_reducible refine Kd.C_drewN ?_ _) | (with_reducible refine Kd.C_drew ?_))); (case side2 => exact (Kd.R_reads' HO198.out).2.1); (case side3 => repeat (first | exact (Kd.R_reads' HO201.out).2.2 | (with_reducible refine Kd.C_alloc ?_ _) | (with_reducible refine Kd.C_drewN ?_ _) | (with_reducible refine Kd.C_drew ?_))); (case side4 => exact (Kd.R_reads' HO201.out).2.1); rintro e w' ⟨rfl, ⟨nd, rfl⟩⟩; refine ⟨_, rfl, ?_⟩))
 go_ret
 exact fin HB

end Go.Proofs.Ytndedincanmaeaa.Print
