-- Printed by a program of the session (mkprinter.py, over the kit's print); Lean checks it.
import Derived.Test.YtndedincanmaeaaCp
import Derived.Test.YtndedincanmaeaaPrint0
import Derived.Test.YtndedincanmaeaaPrint2
import Derived.Test.YtndedincanmaeaaPrint11
namespace Go.Proofs.Ytndedincanmaeaa.Print
open Go.RowKit Go.Proofs.YtndedincanmaeaaW.PrintWords Go.Proofs.YtndedincanmaeaaW.PrintLast Go.Proofs.Ytndedincanmaeaa.Cp
set_option linter.unusedVariables false
set_option linter.unusedSimpArgs false

attribute [local go_sem high] eqA128
/-! ### impl_parallel: function 177 -/
def impl_parallel.f (a0_0 : Int) (a0_1 : Int) (a0_2 : Int) (a0_3 : Int) (a1_0 : Int) (a1_1 : Int) (a1_2 : Int) (a1_3 : Int) : Option (Int) := (impl_normal.f a0_0 a0_1 a0_2 a0_3).bind fun bt267 => ((impl_normal.f a1_0 a1_1 a1_2 a1_3).bind fun bt270 => ((impl_crossOf.f bt267.1 bt267.2.1 bt267.2.2 bt270.1 bt270.2.1 bt270.2.2).bind fun bt273 => (if (!(bt273.1 == 0) || (!(bt273.2.1 == 0) || (!(bt273.2.2 == 0)))) = true then (some 0) else ((impl_normal.f a0_0 a0_1 a0_2 a0_3).bind fun bt276 => ((impl_normal.f a1_0 a1_1 a1_2 a1_3).bind fun bt279 => ((impl_dot.f bt276.1 bt276.2.1 bt276.2.2 bt279.1 bt279.2.1 bt279.2.2).bind fun t282 => ((impl_sign.f t282).bind fun t283 => (some t283))))))))
set_option maxHeartbeats 8000000 in
set_option maxRecDepth 100000 in
theorem impl_parallel.calls (a0_0 : Int) (a0_1 : Int) (a0_2 : Int) (a0_3 : Int) (a1_0 : Int) (a1_1 : Int) (a1_2 : Int) (a1_3 : Int) (r : Int) (w : World) (h : impl_parallel.f a0_0 a0_1 a0_2 a0_3 a1_0 a1_1 a1_2 a1_3 = some r) :
  Calls Try.prog 177 #[.agg #[.int .i64 a0_0, .int .i64 a0_1, .int .i64 a0_2, .int .i64 a0_3], .agg #[.int .i64 a1_0, .int .i64 a1_1, .int .i64 a1_2, .int .i64 a1_3]] w fun e w' => e = .returned (.int .i64 r) ∧ Below w.heap.size w w' := by
 have hu23 := Try.underlying23
 have hu128 := Try.underlying128
 have HB := Aside0.mk (Below.refl w.heap.size w)
 have H : ((impl_normal.f a0_0 a0_1 a0_2 a0_3).bind fun bt267 => ((impl_normal.f a1_0 a1_1 a1_2 a1_3).bind fun bt270 => ((impl_crossOf.f bt267.1 bt267.2.1 bt267.2.2 bt270.1 bt270.2.1 bt270.2.2).bind fun bt273 => (if (!(bt273.1 == 0) || (!(bt273.2.1 == 0) || (!(bt273.2.2 == 0)))) = true then (some 0) else ((impl_normal.f a0_0 a0_1 a0_2 a0_3).bind fun bt276 => ((impl_normal.f a1_0 a1_1 a1_2 a1_3).bind fun bt279 => ((impl_dot.f bt276.1 bt276.2.1 bt276.2.2 bt279.1 bt279.2.1 bt279.2.2).bind fun t282 => ((impl_sign.f t282).bind fun t283 => (some t283))))))))) = some r := h
 clear h
 obtain ⟨⟨t267, t268, t269⟩, A3, H⟩ := bi H
 dsimp only at H
 obtain ⟨⟨t270, t271, t272⟩, A4, H⟩ := bi H
 dsimp only at H
 obtain ⟨⟨t273, t274, t275⟩, A5, H⟩ := bi H
 dsimp only at H
 by_cases c6 : (!(t273 == 0) || (!(t274 == 0) || (!(t275 == 0)))) = true
 ·rw [if_pos c6] at H
  have c6b0 : (!(t273 == 0) || (!(t274 == 0) || (!(t275 == 0)))) = true := c6
  clear c6
  obtain rfl := Option.some.inj H
  go_enter Try.func177, Try.ntmps177
  try go_wp2_with (first | ((with_reducible refine gate_dst (N := 2) rfl ?_); refine box_event ?hg (N := 2) ?hd (cs := #[.int .i64 a0_0, .int .i64 a0_1, .int .i64 a0_2, .int .i64 a0_3]) (t := 23) ?hr ?_; (case hd => rfl); (case hg => rfl); (case hr => first | (go_simp; done) | (go_simp; rfl)); intro g1 hg w7 hbox hb; have bK1 := Aside0.mk (hbox); have bW1 := gx hg HB; have bE1 := gx hg HB; replace HB := bt HB hb; clear hb hbox hg) | ((with_reducible refine gate_dst (N := 3) rfl ?_); refine box_event ?hg (N := 3) ?hd (cs := #[.int .i64 a1_0, .int .i64 a1_1, .int .i64 a1_2, .int .i64 a1_3]) (t := 23) ?hr ?_; (case hd => rfl); (case hg => rfl); (case hr => first | (go_simp; done) | (go_simp; rfl)); intro g2 hg w8 hbox hb; have n0_ := kb bK1 hb; have n1_ := bt HB hb; have n2_ := Aside0.mk (hbox); have n3_ := gx hg HB; have n4_ := gx hg HB; have n5_ := nl hg bK1; have n6_ := nr hg bK1; clear bK1; clear HB; have bK1 := n0_; have HB := n1_; have bK2 := n2_; have bW2 := n3_; have bE2 := n4_; have bN1_2 := n5_; have bN2_1 := n6_; clear n0_ n1_ n2_ n3_ n4_ n5_ n6_; clear hb hbox hg))
  replace bK1 := Aside0.mk (blk_drew bK1.out)
  replace bK2 := Aside0.mk (blk_drew bK2.out)
  replace HB := Aside0.mk (below_drew1 HB.out)
  refine start_ (n := 7) (S := fun w' => w'.cell? ⟨g1, 0, none⟩ = some (.int .i64 a0_0) ∧ w'.cell? ⟨g1, 1, none⟩ = some (.int .i64 a0_1) ∧ w'.cell? ⟨g1, 2, none⟩ = some (.int .i64 a0_2) ∧ w'.cell? ⟨g1, 3, none⟩ = some (.int .i64 a0_3) ∧ w'.cell? ⟨g2, 0, none⟩ = some (.int .i64 a1_0) ∧ w'.cell? ⟨g2, 1, none⟩ = some (.int .i64 a1_1) ∧ w'.cell? ⟨g2, 2, none⟩ = some (.int .i64 a1_2) ∧ w'.cell? ⟨g2, 3, none⟩ = some (.int .i64 a1_3)) (ds := []) (bl 7 0) (by kernel_rfl) rfl rfl ⟨(blk_cell bK1.out 0).trans rfl, (blk_cell bK1.out 1).trans rfl, (blk_cell bK1.out 2).trans rfl, (blk_cell bK1.out 3).trans rfl, (blk_cell bK2.out 0).trans rfl, (blk_cell bK2.out 1).trans rfl, (blk_cell bK2.out 2).trans rfl, (blk_cell bK2.out 3).trans rfl⟩ (fun hHeld => ?_)
  generalize w8.drew = w9 at bK1 bK2 HB hHeld ⊢
  refine pK 5 10 32 ?_
  refine take_ (i := 0) (N := some 5) (v := ?_) (a' := ?_) (bl 7 33) rfl rfl (by kernel_rfl) (fun _ _ _ h => h) (Or.inl ⟨by rfl, ?_⟩) hHeld ?_ ?_
  rotate_left
  ·rintro w' ⟨s0, s1, s2, s3, s4, s5, s6, s7⟩
   go_simp
   with_reducible rfl
  rotate_left
  ·simp only [Act.put, List.setIfInBounds_toArray, List.set_cons_zero, List.set_cons_succ, i64_w, i32_w]
   rfl
  refine take_ (i := 2) (N := some 7) (v := ?_) (a' := ?_) (bl 7 37) rfl rfl (by kernel_rfl) (fun _ _ _ h => h) (Or.inl ⟨by rfl, ?_⟩) hHeld ?_ ?_
  rotate_left
  ·rintro w' ⟨s0, s1, s2, s3, s4, s5, s6, s7⟩
   go_simp
   with_reducible rfl
  rotate_left
  ·simp only [Act.put, List.setIfInBounds_toArray, List.set_cons_zero, List.set_cons_succ, i64_w, i32_w]
   rfl
  refine one_ (i := 1) (N := some 6) (bl 7 39) rfl rfl (by kernel_rfl) (by decide) (fun K hK => ?_)
  refine gO Try.func149 #[.agg #[.int .i64 a0_0, .int .i64 a0_1, .int .i64 a0_2, .int .i64 a0_3]] ?_
  with_reducible refine (impl_normal.calls a0_0 a0_1 a0_2 a0_3 t267 t268 t269 _ A3.out).mono ?_
  rintro e w10 ⟨rfl, hb⟩
  refine ⟨_, rfl, ?_⟩
  replace bK1 := kb bK1 hb
  replace bK2 := kb bK2 hb
  replace HB := bt HB hb
  (try clear hb)
  (try clear hb2)
  (try clear hk)
  (try clear hi)
  refine ko hK (fun hHeld => ?_)
  clear hK K
  refine nm 6 ?_
  refine one_ (i := 3) (N := some 8) (bl 7 47) rfl rfl (by kernel_rfl) (by decide) (fun K hK => ?_)
  refine gO Try.func149 #[.agg #[.int .i64 a1_0, .int .i64 a1_1, .int .i64 a1_2, .int .i64 a1_3]] ?_
  with_reducible refine (impl_normal.calls a1_0 a1_1 a1_2 a1_3 t270 t271 t272 _ A4.out).mono ?_
  rintro e w11 ⟨rfl, hb⟩
  refine ⟨_, rfl, ?_⟩
  replace bK1 := kb bK1 hb
  replace bK2 := kb bK2 hb
  replace HB := bt HB hb
  (try clear hb)
  (try clear hb2)
  (try clear hk)
  (try clear hi)
  refine ko hK (fun hHeld => ?_)
  clear hK K
  refine nm 8 ?_
  refine one_ (i := 4) (N := some 9) (bl 7 63) rfl rfl (by kernel_rfl) (by decide) (fun K hK => ?_)
  refine gO Try.func148 #[.agg #[.int .i64 t267, .int .i64 t268, .int .i64 t269], .agg #[.int .i64 t270, .int .i64 t271, .int .i64 t272]] ?_
  with_reducible refine (impl_crossOf.calls t267 t268 t269 t270 t271 t272 t273 t274 t275 _ A5.out).mono ?_
  rintro e w12 ⟨rfl, hb⟩
  refine ⟨_, rfl, ?_⟩
  replace bK1 := kb bK1 hb
  replace bK2 := kb bK2 hb
  replace HB := bt HB hb
  (try clear hb)
  (try clear hb2)
  (try clear hk)
  (try clear hi)
  refine ko hK (fun hHeld => ?_)
  clear hK K
  refine nm 9 ?_
  refine pK 6 11 127 ?_
  refine done_ (by kernel_rfl) ?_
  try go_wp2
  go_ret
  exact fin HB
 rw [if_neg c6] at H
 have c6b0 : (!(t273 == 0) || (!(t274 == 0) || (!(t275 == 0)))) = false := by simpa using c6
 clear c6
 obtain ⟨⟨t276, t277, t278⟩, A13, H⟩ := bi H
 dsimp only at H
 obtain ⟨⟨t279, t280, t281⟩, A14, H⟩ := bi H
 dsimp only at H
 obtain ⟨t282, A15, H⟩ := bi H
 obtain ⟨t283, A16, H⟩ := bi H
 obtain rfl := Option.some.inj H
 go_enter Try.func177, Try.ntmps177
 try go_wp2_with (first | ((with_reducible refine gate_dst (N := 2) rfl ?_); refine box_event ?hg (N := 2) ?hd (cs := #[.int .i64 a0_0, .int .i64 a0_1, .int .i64 a0_2, .int .i64 a0_3]) (t := 23) ?hr ?_; (case hd => rfl); (case hg => rfl); (case hr => first | (go_simp; done) | (go_simp; rfl)); intro g1 hg w17 hbox hb; have bK1 := Aside0.mk (hbox); have bW1 := gx hg HB; have bE1 := gx hg HB; replace HB := bt HB hb; clear hb hbox hg) | ((with_reducible refine gate_dst (N := 3) rfl ?_); refine box_event ?hg (N := 3) ?hd (cs := #[.int .i64 a1_0, .int .i64 a1_1, .int .i64 a1_2, .int .i64 a1_3]) (t := 23) ?hr ?_; (case hd => rfl); (case hg => rfl); (case hr => first | (go_simp; done) | (go_simp; rfl)); intro g2 hg w18 hbox hb; have n0_ := kb bK1 hb; have n1_ := bt HB hb; have n2_ := Aside0.mk (hbox); have n3_ := gx hg HB; have n4_ := gx hg HB; have n5_ := nl hg bK1; have n6_ := nr hg bK1; clear bK1; clear HB; have bK1 := n0_; have HB := n1_; have bK2 := n2_; have bW2 := n3_; have bE2 := n4_; have bN1_2 := n5_; have bN2_1 := n6_; clear n0_ n1_ n2_ n3_ n4_ n5_ n6_; clear hb hbox hg))
 replace bK1 := Aside0.mk (blk_drew bK1.out)
 replace bK2 := Aside0.mk (blk_drew bK2.out)
 replace HB := Aside0.mk (below_drew1 HB.out)
 refine start_ (n := 7) (S := fun w' => w'.cell? ⟨g1, 0, none⟩ = some (.int .i64 a0_0) ∧ w'.cell? ⟨g1, 1, none⟩ = some (.int .i64 a0_1) ∧ w'.cell? ⟨g1, 2, none⟩ = some (.int .i64 a0_2) ∧ w'.cell? ⟨g1, 3, none⟩ = some (.int .i64 a0_3) ∧ w'.cell? ⟨g2, 0, none⟩ = some (.int .i64 a1_0) ∧ w'.cell? ⟨g2, 1, none⟩ = some (.int .i64 a1_1) ∧ w'.cell? ⟨g2, 2, none⟩ = some (.int .i64 a1_2) ∧ w'.cell? ⟨g2, 3, none⟩ = some (.int .i64 a1_3)) (ds := []) (bl 7 0) (by kernel_rfl) rfl rfl ⟨(blk_cell bK1.out 0).trans rfl, (blk_cell bK1.out 1).trans rfl, (blk_cell bK1.out 2).trans rfl, (blk_cell bK1.out 3).trans rfl, (blk_cell bK2.out 0).trans rfl, (blk_cell bK2.out 1).trans rfl, (blk_cell bK2.out 2).trans rfl, (blk_cell bK2.out 3).trans rfl⟩ (fun hHeld => ?_)
 generalize w18.drew = w19 at bK1 bK2 HB hHeld ⊢
 refine pK 5 10 32 ?_
 refine take_ (i := 0) (N := some 5) (v := ?_) (a' := ?_) (bl 7 33) rfl rfl (by kernel_rfl) (fun _ _ _ h => h) (Or.inl ⟨by rfl, ?_⟩) hHeld ?_ ?_
 rotate_left
 ·rintro w' ⟨s0, s1, s2, s3, s4, s5, s6, s7⟩
  go_simp
  with_reducible rfl
 rotate_left
 ·simp only [Act.put, List.setIfInBounds_toArray, List.set_cons_zero, List.set_cons_succ, i64_w, i32_w]
  rfl
 refine take_ (i := 2) (N := some 7) (v := ?_) (a' := ?_) (bl 7 37) rfl rfl (by kernel_rfl) (fun _ _ _ h => h) (Or.inl ⟨by rfl, ?_⟩) hHeld ?_ ?_
 rotate_left
 ·rintro w' ⟨s0, s1, s2, s3, s4, s5, s6, s7⟩
  go_simp
  with_reducible rfl
 rotate_left
 ·simp only [Act.put, List.setIfInBounds_toArray, List.set_cons_zero, List.set_cons_succ, i64_w, i32_w]
  rfl
 refine one_ (i := 1) (N := some 6) (bl 7 39) rfl rfl (by kernel_rfl) (by decide) (fun K hK => ?_)
 refine gO Try.func149 #[.agg #[.int .i64 a0_0, .int .i64 a0_1, .int .i64 a0_2, .int .i64 a0_3]] ?_
 with_reducible refine (impl_normal.calls a0_0 a0_1 a0_2 a0_3 t267 t268 t269 _ A3.out).mono ?_
 rintro e w20 ⟨rfl, hb⟩
 refine ⟨_, rfl, ?_⟩
 replace bK1 := kb bK1 hb
 replace bK2 := kb bK2 hb
 replace HB := bt HB hb
 (try clear hb)
 (try clear hb2)
 (try clear hk)
 (try clear hi)
 refine ko hK (fun hHeld => ?_)
 clear hK K
 refine nm 6 ?_
 refine one_ (i := 3) (N := some 8) (bl 7 47) rfl rfl (by kernel_rfl) (by decide) (fun K hK => ?_)
 refine gO Try.func149 #[.agg #[.int .i64 a1_0, .int .i64 a1_1, .int .i64 a1_2, .int .i64 a1_3]] ?_
 with_reducible refine (impl_normal.calls a1_0 a1_1 a1_2 a1_3 t270 t271 t272 _ A4.out).mono ?_
 rintro e w21 ⟨rfl, hb⟩
 refine ⟨_, rfl, ?_⟩
 replace bK1 := kb bK1 hb
 replace bK2 := kb bK2 hb
 replace HB := bt HB hb
 (try clear hb)
 (try clear hb2)
 (try clear hk)
 (try clear hi)
 refine ko hK (fun hHeld => ?_)
 clear hK K
 refine nm 8 ?_
 refine one_ (i := 4) (N := some 9) (bl 7 63) rfl rfl (by kernel_rfl) (by decide) (fun K hK => ?_)
 refine gO Try.func148 #[.agg #[.int .i64 t267, .int .i64 t268, .int .i64 t269], .agg #[.int .i64 t270, .int .i64 t271, .int .i64 t272]] ?_
 with_reducible refine (impl_crossOf.calls t267 t268 t269 t270 t271 t272 t273 t274 t275 _ A5.out).mono ?_
 rintro e w22 ⟨rfl, hb⟩
 refine ⟨_, rfl, ?_⟩
 replace bK1 := kb bK1 hb
 replace bK2 := kb bK2 hb
 replace HB := bt HB hb
 (try clear hb)
 (try clear hb2)
 (try clear hk)
 (try clear hi)
 refine ko hK (fun hHeld => ?_)
 clear hK K
 refine nm 9 ?_
 refine pK 6 11 127 ?_
 refine done_ (by kernel_rfl) ?_
 try go_wp2
 replace bK1 := Aside0.mk (blk_drew bK1.out)
 replace bK2 := Aside0.mk (blk_drew bK2.out)
 replace HB := Aside0.mk (below_drew1 HB.out)
 refine start_ (n := 7) (S := fun w' => w'.cell? ⟨g1, 0, none⟩ = some (.int .i64 a0_0) ∧ w'.cell? ⟨g1, 1, none⟩ = some (.int .i64 a0_1) ∧ w'.cell? ⟨g1, 2, none⟩ = some (.int .i64 a0_2) ∧ w'.cell? ⟨g1, 3, none⟩ = some (.int .i64 a0_3) ∧ w'.cell? ⟨g2, 0, none⟩ = some (.int .i64 a1_0) ∧ w'.cell? ⟨g2, 1, none⟩ = some (.int .i64 a1_1) ∧ w'.cell? ⟨g2, 2, none⟩ = some (.int .i64 a1_2) ∧ w'.cell? ⟨g2, 3, none⟩ = some (.int .i64 a1_3)) (ds := []) (bl 7 0) (by kernel_rfl) rfl rfl ⟨(blk_cell bK1.out 0).trans rfl, (blk_cell bK1.out 1).trans rfl, (blk_cell bK1.out 2).trans rfl, (blk_cell bK1.out 3).trans rfl, (blk_cell bK2.out 0).trans rfl, (blk_cell bK2.out 1).trans rfl, (blk_cell bK2.out 2).trans rfl, (blk_cell bK2.out 3).trans rfl⟩ (fun hHeld => ?_)
 generalize w22.drew = w23 at bK1 bK2 HB hHeld ⊢
 refine take_ (i := 0) (N := some 12) (v := ?_) (a' := ?_) (bl 7 1) rfl rfl (by kernel_rfl) (fun _ _ _ h => h) (Or.inl ⟨by rfl, ?_⟩) hHeld ?_ ?_
 rotate_left
 ·rintro w' ⟨s0, s1, s2, s3, s4, s5, s6, s7⟩
  go_simp
  with_reducible rfl
 rotate_left
 ·simp only [Act.put, List.setIfInBounds_toArray, List.set_cons_zero, List.set_cons_succ, i64_w, i32_w]
  rfl
 refine take_ (i := 2) (N := some 14) (v := ?_) (a' := ?_) (bl 7 5) rfl rfl (by kernel_rfl) (fun _ _ _ h => h) (Or.inl ⟨by rfl, ?_⟩) hHeld ?_ ?_
 rotate_left
 ·rintro w' ⟨s0, s1, s2, s3, s4, s5, s6, s7⟩
  go_simp
  with_reducible rfl
 rotate_left
 ·simp only [Act.put, List.setIfInBounds_toArray, List.set_cons_zero, List.set_cons_succ, i64_w, i32_w]
  rfl
 refine one_ (i := 1) (N := some 13) (bl 7 7) rfl rfl (by kernel_rfl) (by decide) (fun K hK => ?_)
 refine gO Try.func149 #[.agg #[.int .i64 a0_0, .int .i64 a0_1, .int .i64 a0_2, .int .i64 a0_3]] ?_
 with_reducible refine (impl_normal.calls a0_0 a0_1 a0_2 a0_3 t276 t277 t278 _ A13.out).mono ?_
 rintro e w24 ⟨rfl, hb⟩
 refine ⟨_, rfl, ?_⟩
 replace bK1 := kb bK1 hb
 replace bK2 := kb bK2 hb
 replace HB := bt HB hb
 (try clear hb)
 (try clear hb2)
 (try clear hk)
 (try clear hi)
 refine ko hK (fun hHeld => ?_)
 clear hK K
 refine nm 13 ?_
 refine one_ (i := 3) (N := some 15) (bl 7 15) rfl rfl (by kernel_rfl) (by decide) (fun K hK => ?_)
 refine gO Try.func149 #[.agg #[.int .i64 a1_0, .int .i64 a1_1, .int .i64 a1_2, .int .i64 a1_3]] ?_
 with_reducible refine (impl_normal.calls a1_0 a1_1 a1_2 a1_3 t279 t280 t281 _ A14.out).mono ?_
 rintro e w25 ⟨rfl, hb⟩
 refine ⟨_, rfl, ?_⟩
 replace bK1 := kb bK1 hb
 replace bK2 := kb bK2 hb
 replace HB := bt HB hb
 (try clear hb)
 (try clear hb2)
 (try clear hk)
 (try clear hi)
 refine ko hK (fun hHeld => ?_)
 clear hK K
 refine nm 15 ?_
 refine one_ (i := 4) (N := some 16) (bl 7 31) rfl rfl (by kernel_rfl) (by decide) (fun K hK => ?_)
 refine gO Try.func172 #[.agg #[.int .i64 t276, .int .i64 t277, .int .i64 t278], .agg #[.int .i64 t279, .int .i64 t280, .int .i64 t281]] ?_
 with_reducible refine (impl_dot.calls t276 t277 t278 t279 t280 t281 t282 _ A15.out).mono ?_
 rintro e w26 ⟨rfl, hb⟩
 refine ⟨_, rfl, ?_⟩
 replace bK1 := kb bK1 hb
 replace bK2 := kb bK2 hb
 replace HB := bt HB hb
 (try clear hb)
 (try clear hb2)
 (try clear hk)
 (try clear hi)
 refine ko hK (fun hHeld => ?_)
 clear hK K
 refine nm 16 ?_
 refine one_ (i := 5) (N := some 17) (bl 7 63) rfl rfl (by kernel_rfl) (by decide) (fun K hK => ?_)
 refine gO Try.func168 #[.int .i64 t282] ?_
 with_reducible refine (impl_sign.calls t282 t283 _ A16.out).mono ?_
 rintro e w' ⟨rfl, ⟨nd, rfl⟩⟩
 refine ⟨_, rfl, ?_⟩
 refine ko hK (fun hHeld => ?_)
 clear hK K
 refine nm 17 ?_
 refine pK 6 4 127 ?_
 refine done_ (by kernel_rfl) ?_
 try go_wp2
 go_ret
 exact fin HB

end Go.Proofs.Ytndedincanmaeaa.Print
