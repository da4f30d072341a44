-- Printed by a program of the session (mkprinter.py, over the kit's print); Lean checks it.
import Derived.Test.YtndedincanmaeaaCp
import Derived.Test.YtndedincanmaeaaPrint0
import Derived.Test.YtndedincanmaeaaPrint11
import Derived.Test.YtndedincanmaeaaPrint14
namespace Go.Proofs.Ytndedincanmaeaa.Print
open Go.RowKit Go.Proofs.YtndedincanmaeaaW.PrintWords Go.Proofs.YtndedincanmaeaaW.PrintLast Go.Proofs.Ytndedincanmaeaa.Cp
set_option linter.unusedVariables false
set_option linter.unusedSimpArgs false

/-! ### impl_det3: function 179 -/
def impl_det3.f (a0_0 : Int) (a0_1 : Int) (a0_2 : Int) (a0_3 : Int) (a1_0 : Int) (a1_1 : Int) (a1_2 : Int) (a1_3 : Int) (a2_0 : Int) (a2_1 : Int) (a2_2 : Int) (a2_3 : Int) : Option (Int) := (impl_normal.f a0_0 a0_1 a0_2 a0_3).bind fun bt346 => ((impl_normal.f a1_0 a1_1 a1_2 a1_3).bind fun bt349 => ((impl_normal.f a2_0 a2_1 a2_2 a2_3).bind fun bt352 => ((impl_det.f bt346.1 bt346.2.1 bt346.2.2 bt349.1 bt349.2.1 bt349.2.2 bt352.1 bt352.2.1 bt352.2.2).bind fun t355 => (some t355))))
def impl_det3.T1 : Bool × List (List Nat × List Nat) := (true, [([], []), ([0], [0]), ([], []), ([2, 1], [2]), ([], []), ([4, 3], [4]), ([1, 3, 5, 5], [1, 3, 5]), ([6, 6, 0, 1, 2, 3, 4, 5, 6], [6])])
def impl_det3.B1 : List Nat := [0, 1, 0, 7, 0, 31, 63, 127]
theorem impl_det3.tab1 : rtab .any (opsOf Try.f179 1) = impl_det3.T1 := by kernel_rfl
theorem impl_det3.bits1 : waitsOk impl_det3.T1.2 impl_det3.B1 = true := by kernel_rfl
set_option maxHeartbeats 8000000 in
set_option maxRecDepth 100000 in
theorem impl_det3.calls (a0_0 : Int) (a0_1 : Int) (a0_2 : Int) (a0_3 : Int) (a1_0 : Int) (a1_1 : Int) (a1_2 : Int) (a1_3 : Int) (a2_0 : Int) (a2_1 : Int) (a2_2 : Int) (a2_3 : Int) (r : Int) (w : World) (h : impl_det3.f a0_0 a0_1 a0_2 a0_3 a1_0 a1_1 a1_2 a1_3 a2_0 a2_1 a2_2 a2_3 = some r) :
  Calls Try.prog 179 #[.agg #[.int .i64 a0_0, .int .i64 a0_1, .int .i64 a0_2, .int .i64 a0_3], .agg #[.int .i64 a1_0, .int .i64 a1_1, .int .i64 a1_2, .int .i64 a1_3], .agg #[.int .i64 a2_0, .int .i64 a2_1, .int .i64 a2_2, .int .i64 a2_3]] w fun e w' => e = .returned (.int .i64 r) ∧ Below w.heap.size w w' := by
 have hu23 := Try.underlying23
 have HB := Aside0.mk (Below.refl w.heap.size w)
 have H : ((impl_normal.f a0_0 a0_1 a0_2 a0_3).bind fun bt346 => ((impl_normal.f a1_0 a1_1 a1_2 a1_3).bind fun bt349 => ((impl_normal.f a2_0 a2_1 a2_2 a2_3).bind fun bt352 => ((impl_det.f bt346.1 bt346.2.1 bt346.2.2 bt349.1 bt349.2.1 bt349.2.2 bt352.1 bt352.2.1 bt352.2.2).bind fun t355 => (some t355))))) = some r := h
 clear h
 obtain ⟨⟨t346, t347, t348⟩, A4, H⟩ := bi H
 dsimp only at H
 obtain ⟨⟨t349, t350, t351⟩, A5, H⟩ := bi H
 dsimp only at H
 obtain ⟨⟨t352, t353, t354⟩, A6, H⟩ := bi H
 dsimp only at H
 obtain ⟨t355, A7, H⟩ := bi H
 obtain rfl := Option.some.inj H
 go_enter Try.func179, Try.ntmps179
 try go_wp2_with (first | ((with_reducible refine gate_dst (N := 3) rfl ?_); refine box_event ?hg (N := 3) ?hd (cs := #[.int .i64 a0_0, .int .i64 a0_1, .int .i64 a0_2, .int .i64 a0_3]) (t := 23) ?hr ?_; (case hd => rfl); (case hg => rfl); (case hr => first | (go_simp; done) | (go_simp; rfl)); intro g1 hg w8 hbox hb; have bK1 := Aside0.mk (hbox); have bW1 := gx hg HB; have bE1 := gx hg HB; replace HB := bt HB hb; clear hb hbox hg) | ((with_reducible refine gate_dst (N := 4) rfl ?_); refine box_event ?hg (N := 4) ?hd (cs := #[.int .i64 a1_0, .int .i64 a1_1, .int .i64 a1_2, .int .i64 a1_3]) (t := 23) ?hr ?_; (case hd => rfl); (case hg => rfl); (case hr => first | (go_simp; done) | (go_simp; rfl)); intro g2 hg w9 hbox hb; have n0_ := kb bK1 hb; have n1_ := bt HB hb; have n2_ := Aside0.mk (hbox); have n3_ := gx hg HB; have n4_ := gx hg HB; have n5_ := nl hg bK1; have n6_ := nr hg bK1; clear bK1; clear HB; have bK1 := n0_; have HB := n1_; have bK2 := n2_; have bW2 := n3_; have bE2 := n4_; have bN1_2 := n5_; have bN2_1 := n6_; clear n0_ n1_ n2_ n3_ n4_ n5_ n6_; clear hb hbox hg) | ((with_reducible refine gate_dst (N := 5) rfl ?_); refine box_event ?hg (N := 5) ?hd (cs := #[.int .i64 a2_0, .int .i64 a2_1, .int .i64 a2_2, .int .i64 a2_3]) (t := 23) ?hr ?_; (case hd => rfl); (case hg => rfl); (case hr => first | (go_simp; done) | (go_simp; rfl)); intro g3 hg w10 hbox hb; have n0_ := kb bK1 hb; have n1_ := kb bK2 hb; have n2_ := bt HB hb; have n3_ := Aside0.mk (hbox); have n4_ := gx hg HB; have n5_ := gx hg HB; have n6_ := nl hg bK1; have n7_ := nr hg bK1; have n8_ := nl hg bK2; have n9_ := nr hg bK2; clear bK1; clear bK2; clear HB; have bK1 := n0_; have bK2 := n1_; have HB := n2_; have bK3 := n3_; have bW3 := n4_; have bE3 := n5_; have bN1_3 := n6_; have bN3_1 := n7_; have bN2_3 := n8_; have bN3_2 := n9_; clear n0_ n1_ n2_ n3_ n4_ n5_ n6_ n7_ n8_ n9_; clear hb hbox hg))
 replace bK1 := Aside0.mk (blk_drew bK1.out)
 replace bK2 := Aside0.mk (blk_drew bK2.out)
 replace bK3 := Aside0.mk (blk_drew bK3.out)
 replace HB := Aside0.mk (below_drew1 HB.out)
 refine start_ (n := 8) (S := fun w' => w'.cell? ⟨g1, 0, none⟩ = some (.int .i64 a0_0) ∧ w'.cell? ⟨g1, 1, none⟩ = some (.int .i64 a0_1) ∧ w'.cell? ⟨g1, 2, none⟩ = some (.int .i64 a0_2) ∧ w'.cell? ⟨g1, 3, none⟩ = some (.int .i64 a0_3) ∧ w'.cell? ⟨g2, 0, none⟩ = some (.int .i64 a1_0) ∧ w'.cell? ⟨g2, 1, none⟩ = some (.int .i64 a1_1) ∧ w'.cell? ⟨g2, 2, none⟩ = some (.int .i64 a1_2) ∧ w'.cell? ⟨g2, 3, none⟩ = some (.int .i64 a1_3) ∧ w'.cell? ⟨g3, 0, none⟩ = some (.int .i64 a2_0) ∧ w'.cell? ⟨g3, 1, none⟩ = some (.int .i64 a2_1) ∧ w'.cell? ⟨g3, 2, none⟩ = some (.int .i64 a2_2) ∧ w'.cell? ⟨g3, 3, none⟩ = some (.int .i64 a2_3)) (ds := []) (bl 8 0) (by kernel_rfl) rfl rfl ⟨(blk_cell bK1.out 0).trans rfl, (blk_cell bK1.out 1).trans rfl, (blk_cell bK1.out 2).trans rfl, (blk_cell bK1.out 3).trans rfl, (blk_cell bK2.out 0).trans rfl, (blk_cell bK2.out 1).trans rfl, (blk_cell bK2.out 2).trans rfl, (blk_cell bK2.out 3).trans rfl, (blk_cell bK3.out 0).trans rfl, (blk_cell bK3.out 1).trans rfl, (blk_cell bK3.out 2).trans rfl, (blk_cell bK3.out 3).trans rfl⟩ (fun hHeld => ?_); refine with_tabW impl_det3.tab1 impl_det3.bits1 (fun HT_ HW_ => ?_)
 generalize w10.drew = w11 at bK1 bK2 bK3 HB hHeld ⊢
 refine tS 0 7 1 ?_
 refine tS 2 9 5 ?_
 refine tS 4 11 21 ?_
 refine oS 1 8 23 (fun K hK => ?_)
 refine gO Try.func149 #[.agg #[.int .i64 a0_0, .int .i64 a0_1, .int .i64 a0_2, .int .i64 a0_3]] ?_
 with_reducible refine (impl_normal.calls a0_0 a0_1 a0_2 a0_3 t346 t347 t348 _ A4.out).mono ?_
 rintro e w12 ⟨rfl, hb⟩
 refine ⟨_, rfl, ?_⟩
 replace bK1 := kb bK1 hb
 replace bK2 := kb bK2 hb
 replace bK3 := kb bK3 hb
 replace HB := bt HB hb
 (try clear hb)
 (try clear hb2)
 (try clear hk)
 (try clear hi)
 refine ko hK (fun hHeld => ?_)
 clear hK K
 refine nm 8 ?_
 refine oS 3 10 31 (fun K hK => ?_)
 refine gO Try.func149 #[.agg #[.int .i64 a1_0, .int .i64 a1_1, .int .i64 a1_2, .int .i64 a1_3]] ?_
 with_reducible refine (impl_normal.calls a1_0 a1_1 a1_2 a1_3 t349 t350 t351 _ A5.out).mono ?_
 rintro e w13 ⟨rfl, hb⟩
 refine ⟨_, rfl, ?_⟩
 replace bK1 := kb bK1 hb
 replace bK2 := kb bK2 hb
 replace bK3 := kb bK3 hb
 replace HB := bt HB hb
 (try clear hb)
 (try clear hb2)
 (try clear hk)
 (try clear hi)
 refine ko hK (fun hHeld => ?_)
 clear hK K
 refine nm 10 ?_
 refine oS 5 12 63 (fun K hK => ?_)
 refine gO Try.func149 #[.agg #[.int .i64 a2_0, .int .i64 a2_1, .int .i64 a2_2, .int .i64 a2_3]] ?_
 with_reducible refine (impl_normal.calls a2_0 a2_1 a2_2 a2_3 t352 t353 t354 _ A6.out).mono ?_
 rintro e w14 ⟨rfl, hb⟩
 refine ⟨_, rfl, ?_⟩
 replace bK1 := kb bK1 hb
 replace bK2 := kb bK2 hb
 replace bK3 := kb bK3 hb
 replace HB := bt HB hb
 (try clear hb)
 (try clear hb2)
 (try clear hk)
 (try clear hi)
 refine ko hK (fun hHeld => ?_)
 clear hK K
 refine nm 12 ?_
 refine oS 6 13 127 (fun K hK => ?_)
 refine gO Try.func171 #[.agg #[.int .i64 t346, .int .i64 t347, .int .i64 t348], .agg #[.int .i64 t349, .int .i64 t350, .int .i64 t351], .agg #[.int .i64 t352, .int .i64 t353, .int .i64 t354]] ?_
 with_reducible refine (impl_det.calls t346 t347 t348 t349 t350 t351 t352 t353 t354 t355 _ A7.out).mono ?_
 rintro e w15 ⟨rfl, hb⟩
 refine ⟨_, rfl, ?_⟩
 replace bK1 := kb bK1 hb
 replace bK2 := kb bK2 hb
 replace bK3 := kb bK3 hb
 replace HB := bt HB hb
 (try clear hb)
 (try clear hb2)
 (try clear hk)
 (try clear hi)
 refine ko hK (fun hHeld => ?_)
 clear hK K
 refine nm 13 ?_
 refine pS 7 6 255 ?_
 refine done_ (done_of HT_.out (by kernel_rfl)) ?_
 try go_wp2
 go_ret
 exact fin HB

/-! ### impl_clash4: function 166 -/
def impl_clash4.f (k : Nat) (a0_0 : Int) (a0_1 : Int) (a0_2 : Int) (a0_3 : Int) (a1_0 : Int) (a1_1 : Int) (a1_2 : Int) (a1_3 : Int) (a2_0 : Int) (a2_1 : Int) (a2_2 : Int) (a2_3 : Int) (a3_0 : Int) (a3_1 : Int) (a3_2 : Int) (a3_3 : Int) : Option (Bool) := (impl_det3.f a1_0 a1_1 a1_2 a1_3 a2_0 a2_1 a2_2 a2_3 a3_0 a3_1 a3_2 a3_3).bind fun t360 => ((impl_det3.f a0_0 a0_1 a0_2 a0_3 a2_0 a2_1 a2_2 a2_3 a3_0 a3_1 a3_2 a3_3).bind fun t361 => ((impl_det3.f a0_0 a0_1 a0_2 a0_3 a1_0 a1_1 a1_2 a1_3 a3_0 a3_1 a3_2 a3_3).bind fun t362 => ((impl_det3.f a0_0 a0_1 a0_2 a0_3 a1_0 a1_1 a1_2 a1_3 a2_0 a2_1 a2_2 a2_3).bind fun t363 => ((impl_weighs.f k (([t360, wrap64 (-t361), t362, wrap64 (-t363)] : List Int)) (([a0_3, a1_3, a2_3, a3_3] : List Int))).bind fun t370 => (some t370)))))
theorem impl_clash4.mono : ∀ a0 a1 a2 a3 a4 a5 a6 a7 a8 a9 a10 a11 a12 a13 a14 a15 k, LeO (impl_clash4.f k a0 a1 a2 a3 a4 a5 a6 a7 a8 a9 a10 a11 a12 a13 a14 a15) (impl_clash4.f (k + 1) a0 a1 a2 a3 a4 a5 a6 a7 a8 a9 a10 a11 a12 a13 a14 a15) := by
 intro a0 a1 a2 a3 a4 a5 a6 a7 a8 a9 a10 a11 a12 a13 a14 a15 k
 unfold impl_clash4.f
 repeat' first
   | (with_reducible exact impl_weighs.mono _ _ _)
   | (with_reducible exact LeO.refl _)
   | (with_reducible exact LeO.none _)
   | (with_reducible refine LeO.ite ?_ ?_)
   | (with_reducible refine LeO.bind ?_ (fun _ => ?_))
   | exact impl_weighs.mono _ _ _
   | exact LeO.none _
   | refine LeO.ite ?_ ?_
   | refine LeO.bind ?_ (fun _ => ?_)
def impl_clash4.T1 : Bool × List (List Nat × List Nat) := (true, [([], []), ([], []), ([], []), ([0, 1, 2], [0, 1, 2]), ([], []), ([], []), ([], []), ([4, 5, 6, 3], [4, 5, 6]), ([7], [7]), ([], []), ([], []), ([], []), ([9, 10, 11, 7], [9, 10, 11]), ([], []), ([], []), ([], []), ([13, 14, 15, 12], [13, 14, 15]), ([16], [16]), ([3, 8, 12, 17], [3, 8, 12, 17]), ([18, 16, 0, 1, 2, 3, 4, 5, 6, 7, 8, 9, 10, 11, 12, 13, 14, 15, 16, 17, 18], [18])])
def impl_clash4.B1 : List Nat := [0, 0, 0, 7, 0, 0, 0, 127, 255, 0, 0, 0, 3839, 0, 0, 0, 65279, 130815, 262143, 524287]
theorem impl_clash4.tab1 : rtab .any (opsOf Try.f166 1) = impl_clash4.T1 := by kernel_rfl
theorem impl_clash4.bits1 : waitsOk impl_clash4.T1.2 impl_clash4.B1 = true := by kernel_rfl
set_option maxHeartbeats 8000000 in
set_option maxRecDepth 100000 in
theorem impl_clash4.calls (k : Nat) (a0_0 : Int) (a0_1 : Int) (a0_2 : Int) (a0_3 : Int) (a1_0 : Int) (a1_1 : Int) (a1_2 : Int) (a1_3 : Int) (a2_0 : Int) (a2_1 : Int) (a2_2 : Int) (a2_3 : Int) (a3_0 : Int) (a3_1 : Int) (a3_2 : Int) (a3_3 : Int) (r : Bool) (w : World) (h : impl_clash4.f k a0_0 a0_1 a0_2 a0_3 a1_0 a1_1 a1_2 a1_3 a2_0 a2_1 a2_2 a2_3 a3_0 a3_1 a3_2 a3_3 = some r) :
  Calls Try.prog 166 #[.agg #[.int .i64 a0_0, .int .i64 a0_1, .int .i64 a0_2, .int .i64 a0_3], .agg #[.int .i64 a1_0, .int .i64 a1_1, .int .i64 a1_2, .int .i64 a1_3], .agg #[.int .i64 a2_0, .int .i64 a2_1, .int .i64 a2_2, .int .i64 a2_3], .agg #[.int .i64 a3_0, .int .i64 a3_1, .int .i64 a3_2, .int .i64 a3_3]] w fun e w' => e = .returned (.bool r) ∧ Below w.heap.size w w' := by
 have hu23 := Try.underlying23
 have HB := Aside0.mk (Below.refl w.heap.size w)
 have H : ((impl_det3.f a1_0 a1_1 a1_2 a1_3 a2_0 a2_1 a2_2 a2_3 a3_0 a3_1 a3_2 a3_3).bind fun t360 => ((impl_det3.f a0_0 a0_1 a0_2 a0_3 a2_0 a2_1 a2_2 a2_3 a3_0 a3_1 a3_2 a3_3).bind fun t361 => ((impl_det3.f a0_0 a0_1 a0_2 a0_3 a1_0 a1_1 a1_2 a1_3 a3_0 a3_1 a3_2 a3_3).bind fun t362 => ((impl_det3.f a0_0 a0_1 a0_2 a0_3 a1_0 a1_1 a1_2 a1_3 a2_0 a2_1 a2_2 a2_3).bind fun t363 => ((impl_weighs.f k (([t360, wrap64 (-t361), t362, wrap64 (-t363)] : List Int)) (([a0_3, a1_3, a2_3, a3_3] : List Int))).bind fun t370 => (some t370)))))) = some r := h
 clear h
 obtain ⟨t360, A5, H⟩ := bi H
 obtain ⟨t361, A6, H⟩ := bi H
 obtain ⟨t362, A7, H⟩ := bi H
 obtain ⟨t363, A8, H⟩ := bi H
 obtain ⟨y364, hy364⟩ : ∃ y_ : List Int, y_ = (([t360, wrap64 (-t361), t362, wrap64 (-t363)] : List Int)) := ⟨_, rfl⟩
 replace H : ((impl_weighs.f k y364 (([a0_3, a1_3, a2_3, a3_3] : List Int))).bind fun t370 => (some t370)) = some r := by first | (rw [hy364]; with_reducible exact H) | (have H2_ := (Option.bind_some _ _).symm.trans H; rw [hy364]; with_reducible exact H2_) | (have H2_ := (Option.bind_some _ _).symm.trans H; with_reducible exact H2_) | with_reducible exact H | (rw [hy364]; exact H) | exact H
 have Ny364 := Aside0.mk hy364
 clear hy364
 obtain ⟨y367, hy367⟩ : ∃ y_ : List Int, y_ = (([a0_3, a1_3, a2_3, a3_3] : List Int)) := ⟨_, rfl⟩
 replace H : ((impl_weighs.f k y364 y367).bind fun t370 => (some t370)) = some r := by first | (rw [hy367]; with_reducible exact H) | (have H2_ := (Option.bind_some _ _).symm.trans H; rw [hy367]; with_reducible exact H2_) | (have H2_ := (Option.bind_some _ _).symm.trans H; with_reducible exact H2_) | with_reducible exact H | (rw [hy367]; exact H) | exact H
 have Ny367 := Aside0.mk hy367
 clear hy367
 obtain ⟨t370, A9, H⟩ := bi H
 obtain rfl := Option.some.inj H
 go_enter Try.func166, Try.ntmps166
 try go_wp2_with (first | ((with_reducible refine gate_dst (N := 4) rfl ?_); refine box_event ?hg (N := 4) ?hd (cs := #[.int .i64 a0_0, .int .i64 a0_1, .int .i64 a0_2, .int .i64 a0_3]) (t := 23) ?hr ?_; (case hd => rfl); (case hg => rfl); (case hr => first | (go_simp; done) | (go_simp; rfl)); intro g4 hg w10 hbox hb; have bK4 := Aside0.mk (hbox); have bW4 := gx hg HB; have bE4 := gx hg HB; replace HB := bt HB hb; clear hb hbox hg) | ((with_reducible refine gate_dst (N := 5) rfl ?_); refine box_event ?hg (N := 5) ?hd (cs := #[.int .i64 a1_0, .int .i64 a1_1, .int .i64 a1_2, .int .i64 a1_3]) (t := 23) ?hr ?_; (case hd => rfl); (case hg => rfl); (case hr => first | (go_simp; done) | (go_simp; rfl)); intro g5 hg w11 hbox hb; have n0_ := kb bK4 hb; have n1_ := bt HB hb; have n2_ := Aside0.mk (hbox); have n3_ := gx hg HB; have n4_ := gx hg HB; have n5_ := nl hg bK4; have n6_ := nr hg bK4; clear bK4; clear HB; have bK4 := n0_; have HB := n1_; have bK5 := n2_; have bW5 := n3_; have bE5 := n4_; have bN4_5 := n5_; have bN5_4 := n6_; clear n0_ n1_ n2_ n3_ n4_ n5_ n6_; clear hb hbox hg) | ((with_reducible refine gate_dst (N := 6) rfl ?_); refine box_event ?hg (N := 6) ?hd (cs := #[.int .i64 a2_0, .int .i64 a2_1, .int .i64 a2_2, .int .i64 a2_3]) (t := 23) ?hr ?_; (case hd => rfl); (case hg => rfl); (case hr => first | (go_simp; done) | (go_simp; rfl)); intro g6 hg w12 hbox hb; have n0_ := kb bK4 hb; have n1_ := kb bK5 hb; have n2_ := bt HB hb; have n3_ := Aside0.mk (hbox); have n4_ := gx hg HB; have n5_ := gx hg HB; have n6_ := nl hg bK4; have n7_ := nr hg bK4; have n8_ := nl hg bK5; have n9_ := nr hg bK5; clear bK4; clear bK5; clear HB; have bK4 := n0_; have bK5 := n1_; have HB := n2_; have bK6 := n3_; have bW6 := n4_; have bE6 := n5_; have bN4_6 := n6_; have bN6_4 := n7_; have bN5_6 := n8_; have bN6_5 := n9_; clear n0_ n1_ n2_ n3_ n4_ n5_ n6_ n7_ n8_ n9_; clear hb hbox hg) | ((with_reducible refine gate_dst (N := 7) rfl ?_); refine box_event ?hg (N := 7) ?hd (cs := #[.int .i64 a3_0, .int .i64 a3_1, .int .i64 a3_2, .int .i64 a3_3]) (t := 23) ?hr ?_; (case hd => rfl); (case hg => rfl); (case hr => first | (go_simp; done) | (go_simp; rfl)); intro g7 hg w13 hbox hb; have n0_ := kb bK4 hb; have n1_ := kb bK5 hb; have n2_ := kb bK6 hb; have n3_ := bt HB hb; have n4_ := Aside0.mk (hbox); have n5_ := gx hg HB; have n6_ := gx hg HB; have n7_ := nl hg bK4; have n8_ := nr hg bK4; have n9_ := nl hg bK5; have n10_ := nr hg bK5; have n11_ := nl hg bK6; have n12_ := nr hg bK6; clear bK4; clear bK5; clear bK6; clear HB; have bK4 := n0_; have bK5 := n1_; have bK6 := n2_; have HB := n3_; have bK7 := n4_; have bW7 := n5_; have bE7 := n6_; have bN4_7 := n7_; have bN7_4 := n8_; have bN5_7 := n9_; have bN7_5 := n10_; have bN6_7 := n11_; have bN7_6 := n12_; clear n0_ n1_ n2_ n3_ n4_ n5_ n6_ n7_ n8_ n9_ n10_ n11_ n12_; clear hb hbox hg))
 replace bK4 := Aside0.mk (blk_drew bK4.out)
 replace bK5 := Aside0.mk (blk_drew bK5.out)
 replace bK6 := Aside0.mk (blk_drew bK6.out)
 replace bK7 := Aside0.mk (blk_drew bK7.out)
 replace HB := Aside0.mk (below_drew1 HB.out)
 refine start_ (n := 20) (S := fun w' => w'.cell? ⟨g5, 0, none⟩ = some (.int .i64 a1_0) ∧ w'.cell? ⟨g5, 1, none⟩ = some (.int .i64 a1_1) ∧ w'.cell? ⟨g5, 2, none⟩ = some (.int .i64 a1_2) ∧ w'.cell? ⟨g5, 3, none⟩ = some (.int .i64 a1_3) ∧ w'.cell? ⟨g6, 0, none⟩ = some (.int .i64 a2_0) ∧ w'.cell? ⟨g6, 1, none⟩ = some (.int .i64 a2_1) ∧ w'.cell? ⟨g6, 2, none⟩ = some (.int .i64 a2_2) ∧ w'.cell? ⟨g6, 3, none⟩ = some (.int .i64 a2_3) ∧ w'.cell? ⟨g7, 0, none⟩ = some (.int .i64 a3_0) ∧ w'.cell? ⟨g7, 1, none⟩ = some (.int .i64 a3_1) ∧ w'.cell? ⟨g7, 2, none⟩ = some (.int .i64 a3_2) ∧ w'.cell? ⟨g7, 3, none⟩ = some (.int .i64 a3_3) ∧ w'.cell? ⟨g4, 0, none⟩ = some (.int .i64 a0_0) ∧ w'.cell? ⟨g4, 1, none⟩ = some (.int .i64 a0_1) ∧ w'.cell? ⟨g4, 2, none⟩ = some (.int .i64 a0_2) ∧ w'.cell? ⟨g4, 3, none⟩ = some (.int .i64 a0_3)) (ds := []) (bl 20 0) (by kernel_rfl) rfl rfl ⟨(blk_cell bK5.out 0).trans rfl, (blk_cell bK5.out 1).trans rfl, (blk_cell bK5.out 2).trans rfl, (blk_cell bK5.out 3).trans rfl, (blk_cell bK6.out 0).trans rfl, (blk_cell bK6.out 1).trans rfl, (blk_cell bK6.out 2).trans rfl, (blk_cell bK6.out 3).trans rfl, (blk_cell bK7.out 0).trans rfl, (blk_cell bK7.out 1).trans rfl, (blk_cell bK7.out 2).trans rfl, (blk_cell bK7.out 3).trans rfl, (blk_cell bK4.out 0).trans rfl, (blk_cell bK4.out 1).trans rfl, (blk_cell bK4.out 2).trans rfl, (blk_cell bK4.out 3).trans rfl⟩ (fun hHeld => ?_); refine with_tabW impl_clash4.tab1 impl_clash4.bits1 (fun HT_ HW_ => ?_)
 generalize w13.drew = w14 at bK4 bK5 bK6 bK7 HB hHeld ⊢
 refine tS 0 10 1 ?_
 refine tS 1 11 3 ?_
 refine tS 2 12 7 ?_
 refine tS 4 14 23 ?_
 refine tS 5 15 55 ?_
 refine tS 6 16 119 ?_
 refine tS 9 19 631 ?_
 refine tS 10 20 1655 ?_
 refine tS 11 21 3703 ?_
 refine tS 13 23 11895 ?_
 refine tS 14 24 28279 ?_
 refine tS 15 25 61047 ?_
 refine oS 3 13 61055 (fun K hK => ?_)
 refine gO Try.func179 #[.agg #[.int .i64 a1_0, .int .i64 a1_1, .int .i64 a1_2, .int .i64 a1_3], .agg #[.int .i64 a2_0, .int .i64 a2_1, .int .i64 a2_2, .int .i64 a2_3], .agg #[.int .i64 a3_0, .int .i64 a3_1, .int .i64 a3_2, .int .i64 a3_3]] ?_
 with_reducible refine (impl_det3.calls a1_0 a1_1 a1_2 a1_3 a2_0 a2_1 a2_2 a2_3 a3_0 a3_1 a3_2 a3_3 t360 _ A5.out).mono ?_
 rintro e w15 ⟨rfl, hb⟩
 refine ⟨_, rfl, ?_⟩
 replace bK4 := kb bK4 hb
 replace bK5 := kb bK5 hb
 replace bK6 := kb bK6 hb
 replace bK7 := kb bK7 hb
 replace HB := bt HB hb
 (try clear hb)
 (try clear hb2)
 (try clear hk)
 (try clear hi)
 refine ko hK (fun hHeld => ?_)
 clear hK K
 refine nm 13 ?_
 refine oS 7 17 61183 (fun K hK => ?_)
 refine gO Try.func179 #[.agg #[.int .i64 a0_0, .int .i64 a0_1, .int .i64 a0_2, .int .i64 a0_3], .agg #[.int .i64 a2_0, .int .i64 a2_1, .int .i64 a2_2, .int .i64 a2_3], .agg #[.int .i64 a3_0, .int .i64 a3_1, .int .i64 a3_2, .int .i64 a3_3]] ?_
 with_reducible refine (impl_det3.calls a0_0 a0_1 a0_2 a0_3 a2_0 a2_1 a2_2 a2_3 a3_0 a3_1 a3_2 a3_3 t361 _ A6.out).mono ?_
 rintro e w16 ⟨rfl, hb⟩
 refine ⟨_, rfl, ?_⟩
 replace bK4 := kb bK4 hb
 replace bK5 := kb bK5 hb
 replace bK6 := kb bK6 hb
 replace bK7 := kb bK7 hb
 replace HB := bt HB hb
 (try clear hb)
 (try clear hb2)
 (try clear hk)
 (try clear hi)
 refine ko hK (fun hHeld => ?_)
 clear hK K
 refine nm 17 ?_
 refine pS 8 18 61439 ?_
 refine oS 12 22 65535 (fun K hK => ?_)
 refine gO Try.func179 #[.agg #[.int .i64 a0_0, .int .i64 a0_1, .int .i64 a0_2, .int .i64 a0_3], .agg #[.int .i64 a1_0, .int .i64 a1_1, .int .i64 a1_2, .int .i64 a1_3], .agg #[.int .i64 a3_0, .int .i64 a3_1, .int .i64 a3_2, .int .i64 a3_3]] ?_
 with_reducible refine (impl_det3.calls a0_0 a0_1 a0_2 a0_3 a1_0 a1_1 a1_2 a1_3 a3_0 a3_1 a3_2 a3_3 t362 _ A7.out).mono ?_
 rintro e w17 ⟨rfl, hb⟩
 refine ⟨_, rfl, ?_⟩
 replace bK4 := kb bK4 hb
 replace bK5 := kb bK5 hb
 replace bK6 := kb bK6 hb
 replace bK7 := kb bK7 hb
 replace HB := bt HB hb
 (try clear hb)
 (try clear hb2)
 (try clear hk)
 (try clear hi)
 refine ko hK (fun hHeld => ?_)
 clear hK K
 refine nm 22 ?_
 refine oS 16 26 131071 (fun K hK => ?_)
 refine gO Try.func179 #[.agg #[.int .i64 a0_0, .int .i64 a0_1, .int .i64 a0_2, .int .i64 a0_3], .agg #[.int .i64 a1_0, .int .i64 a1_1, .int .i64 a1_2, .int .i64 a1_3], .agg #[.int .i64 a2_0, .int .i64 a2_1, .int .i64 a2_2, .int .i64 a2_3]] ?_
 with_reducible refine (impl_det3.calls a0_0 a0_1 a0_2 a0_3 a1_0 a1_1 a1_2 a1_3 a2_0 a2_1 a2_2 a2_3 t363 _ A8.out).mono ?_
 rintro e w18 ⟨rfl, hb⟩
 refine ⟨_, rfl, ?_⟩
 replace bK4 := kb bK4 hb
 replace bK5 := kb bK5 hb
 replace bK6 := kb bK6 hb
 replace bK7 := kb bK7 hb
 replace HB := bt HB hb
 (try clear hb)
 (try clear hb2)
 (try clear hk)
 (try clear hi)
 refine ko hK (fun hHeld => ?_)
 clear hK K
 refine nm 26 ?_
 refine pS 17 27 262143 ?_
 refine oS 18 28 524287 (fun K hK => ?_)
 refine Kd.R_lit_step (Kd.int .i64) _ 3 ?hg (N := 28) ?hd (xs := ([t360, wrap64 (-t361), t362, wrap64 (-t363)] : List Int)) (inner := [.int .i64 t360, .int .i64 (wrap64 (-t361)), .int .i64 t362, .int .i64 (wrap64 (-t363))]) (ok := fun _ => True) (okp := fun _ => True) ?hr ?hp (fun _ hk => hk) trivial (Below.refl _ _) (Nat.le_refl _) (by simp) ?_; (case hd => rfl); (case hg => rfl); (case hr => first | (go_simp; done) | (go_simp; rfl)); (case hp => exact (Reps.one (show Kd.M (Kd.int .i64) _ _ _ t360 [.int .i64 t360] from rfl) (Reps.one (show Kd.M (Kd.int .i64) _ _ _ (wrap64 (-t361)) [.int .i64 (wrap64 (-t361))] from rfl) (Reps.one (show Kd.M (Kd.int .i64) _ _ _ t362 [.int .i64 t362] from rfl) (Reps.one (show Kd.M (Kd.int .i64) _ _ _ (wrap64 (-t363)) [.int .i64 (wrap64 (-t363))] from rfl) (Reps.none _ _))))))
 intro v365 w19 ho20 hb hg_ hnew_
 clear hg_ hnew_
 (first | rw [← Ny364.out] at ho20 | (simp only [Int.reduceToNat] at ho20; rw [← Ny364.out] at ho20))
 have HO366 := Aside0.mk (Kd.R_lower ho20 (below_size (hbx HB)))
 replace bK4 := kb bK4 hb
 replace bK5 := kb bK5 hb
 replace bK6 := kb bK6 hb
 replace bK7 := kb bK7 hb
 replace HB := bt HB hb
 clear hb ho20
 refine ko hK (fun hHeld => ?_)
 clear hK K
 refine nm 28 ?_
 refine pS 19 9 1048575 ?_
 refine done_ (done_of HT_.out (by kernel_rfl)) ?_
 have hnb21 := bN4_5.out
 have hnc21 := bN5_4.out
 have hnb22 := bN4_6.out
 have hnc22 := bN6_4.out
 have hnb23 := bN4_7.out
 have hnc23 := bN7_4.out
 obtain ⟨hcz24_0, hcz24_1, hcz24_2, hcz24_3, hfz24_0, hfz24_1, hfz24_2, hfz24_3⟩ := cz4 bK4
 have hnb25 := bN5_6.out
 have hnc25 := bN6_5.out
 have hnb26 := bN5_7.out
 have hnc26 := bN7_5.out
 obtain ⟨hcz27_0, hcz27_1, hcz27_2, hcz27_3, hfz27_0, hfz27_1, hfz27_2, hfz27_3⟩ := cz4 bK5
 have hnb28 := bN6_7.out
 have hnc28 := bN7_6.out
 obtain ⟨hcz29_0, hcz29_1, hcz29_2, hcz29_3, hfz29_0, hfz29_1, hfz29_2, hfz29_3⟩ := cz4 bK6
 obtain ⟨hcz30_0, hcz30_1, hcz30_2, hcz30_3, hfz30_0, hfz30_1, hfz30_2, hfz30_3⟩ := cz4 bK7
 try go_wp2_with (first | ((with_reducible refine gate_dst (N := 38) rfl ?_); refine Kd.R_lit (Kd.int .i64) _ 3 ?hg (N := 38) ?hd (xs := ([a0_3, a1_3, a2_3, a3_3] : List Int)) (inner := [.int .i64 a0_3, .int .i64 a1_3, .int .i64 a2_3, .int .i64 a3_3]) (ok := fun _ => True) (okp := fun _ => True) ?hr ?hp (fun _ hk => hk) trivial (Below.refl _ _) (Nat.le_refl _) (by simp) ?_; (case hd => rfl); (case hg => rfl); (case hr => first | (go_simp; done) | (go_simp; rfl)); (case hp => exact (Reps.one (show Kd.M (Kd.int .i64) _ _ _ a0_3 [.int .i64 a0_3] from rfl) (Reps.one (show Kd.M (Kd.int .i64) _ _ _ a1_3 [.int .i64 a1_3] from rfl) (Reps.one (show Kd.M (Kd.int .i64) _ _ _ a2_3 [.int .i64 a2_3] from rfl) (Reps.one (show Kd.M (Kd.int .i64) _ _ _ a3_3 [.int .i64 a3_3] from rfl) (Reps.none _ _)))))); intro v368 w31 ho32 hb hg_ hnew_; clear hg_ hnew_; (first | rw [← Ny367.out] at ho32 | (simp only [Int.reduceToNat] at ho32; rw [← Ny367.out] at ho32)); have n0_ := Aside0.mk (Kd.R_elder' (by (with_reducible repeat (first | apply Kd.R_alloc | apply Kd.R_drewN | apply Kd.R_drew)); exact HO366.out) (Kd.R_base ho32) hb); have n1_ := Aside0.mk (Kd.R_lower (Kd.R_new' ho32 (Kd.R_lt (by (with_reducible repeat (first | apply Kd.R_alloc | apply Kd.R_drewN | apply Kd.R_drew)); exact HO366.out))) (below_size (hbx HB))); have n2_ := kb bK4 hb; have n3_ := kb bK5 hb; have n4_ := kb bK6 hb; have n5_ := kb bK7 hb; have n6_ := bt HB hb; clear HO366; clear bK4; clear bK5; clear bK6; clear bK7; clear HB; have HO366 := n0_; have HO369 := n1_; have bK4 := n2_; have bK5 := n3_; have bK6 := n4_; have bK7 := n5_; have HB := n6_; clear n0_ n1_ n2_ n3_ n4_ n5_ n6_; clear hb ho32; obtain ⟨Ao33, co33, eo33⟩ := Kd.R_slice HO366.out; subst eo33; obtain ⟨Ao34, co34, eo34⟩ := Kd.R_slice HO369.out; subst eo34) | ((with_reducible refine gate_callee (f := 178) rfl ?_); refine gL 39 Try.func178 #[.slice Ao33 y364.length co33, .slice Ao34 y367.length co34] ?_; (with_reducible refine (impl_weighs.calls k _ _ y364 _ _ y367 t370 _ ?side1 ?side2 ?side3 ?side4 A9.out).mono ?_); (case side1 => repeat (first | exact (Kd.R_reads' HO366.out).2.2 | (with_reducible refine Kd.C_alloc ?_ _) | (with_reducible refine Kd.C_drewN ?_ _) | (with_reducible refine Kd.C_drew ?_))); (case side2 => exact (Kd.R_reads' HO366.out).2.1); (case side3 => repeat (first | exact (Kd.R_reads' HO369.out).2.2 | (with_reducible refine Kd.C_alloc ?_ _) | (with_reducible refine Kd.C_drewN ?_ _) | (with_reducible refine Kd.C_drew ?_))); (case side4 => exact (Kd.R_reads' HO369.out).2.1); rintro e w' ⟨rfl, ⟨nd, rfl⟩⟩; refine ⟨_, rfl, ?_⟩))
 go_ret
 exact fin HB

end Go.Proofs.Ytndedincanmaeaa.Print
