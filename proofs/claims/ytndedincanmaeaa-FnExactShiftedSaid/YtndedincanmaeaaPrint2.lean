-- Printed by a program of the session (mkprinter.py, over the kit's print); Lean checks it.
import Derived.Test.YtndedincanmaeaaCp
import Derived.Test.YtndedincanmaeaaPrint0
import Derived.Test.YtndedincanmaeaaPrint1
namespace Go.Proofs.Ytndedincanmaeaa.Print
open Go.RowKit Go.Proofs.YtndedincanmaeaaW.PrintWords Go.Proofs.YtndedincanmaeaaW.PrintLast Go.Proofs.Ytndedincanmaeaa.Cp
set_option linter.unusedVariables false
set_option linter.unusedSimpArgs false

/-! ### spec_PlaneOk: function 85 -/
def spec_PlaneOk.f (k : Nat) (a0_0 : Int) (a0_1 : Int) (a0_2 : Int) (a0_3 : Int) : Option (Bool) := (spec_l3In.f a0_0 a0_1 a0_2 a0_3).bind fun t112 => (if t112 = true then (if a0_0 = 0 then (if a0_1 = 0 then (if a0_2 = 0 then (some false) else ((spec_l3Gcd.f k a0_0 a0_1).bind fun t113 => ((spec_l3Gcd.f k a0_2 a0_3).bind fun t114 => ((spec_l3Gcd.f k t113 t114).bind fun t115 => (some (t115 == 1)))))) else ((spec_l3Gcd.f k a0_0 a0_1).bind fun t116 => ((spec_l3Gcd.f k a0_2 a0_3).bind fun t117 => ((spec_l3Gcd.f k t116 t117).bind fun t118 => (some (t118 == 1)))))) else ((spec_l3Gcd.f k a0_0 a0_1).bind fun t119 => ((spec_l3Gcd.f k a0_2 a0_3).bind fun t120 => ((spec_l3Gcd.f k t119 t120).bind fun t121 => (some (t121 == 1)))))) else (some false))
theorem spec_PlaneOk.mono : ∀ a0 a1 a2 a3 k, LeO (spec_PlaneOk.f k a0 a1 a2 a3) (spec_PlaneOk.f (k + 1) a0 a1 a2 a3) := by
 intro a0 a1 a2 a3 k
 unfold spec_PlaneOk.f
 repeat' first
   | (with_reducible exact spec_l3Gcd.mono _ _ _)
   | (with_reducible exact LeO.refl _)
   | (with_reducible exact LeO.none _)
   | (with_reducible refine LeO.ite ?_ ?_)
   | (with_reducible refine LeO.bind ?_ (fun _ => ?_))
   | exact spec_l3Gcd.mono _ _ _
   | exact LeO.none _
   | refine LeO.ite ?_ ?_
   | refine LeO.bind ?_ (fun _ => ?_)
def spec_PlaneOk.T1 : Bool × List (List Nat × List Nat) := (true, [([], []), ([0], [0]), ([1, 1], [1]), ([2], [2]), ([3, 2], [2, 3]), ([4, 2], [2, 4]), ([5, 2, 2], [2, 5]), ([6], [6]), ([7, 6], [6, 7]), ([8, 6], [6, 8]), ([6, 9, 2], [2, 6, 9]), ([10, 6, 2], [2, 10]), ([11], [11]), ([12, 11], [11, 12]), ([13, 11], [11, 13]), ([11, 14, 2], [2, 11, 14]), ([2, 15], [2, 15]), ([16, 11], [16]), ([17], [17]), ([18, 17], [17, 18]), ([17], [17]), ([20, 17], [17, 20]), ([19, 21, 17, 17], [17, 19, 21]), ([17], [17]), ([23, 17], [17, 23]), ([17], [17]), ([25, 17], [17, 25]), ([24, 26, 22, 17], [17, 24, 26]), ([22, 27, 27, 17], [17, 22, 27]), ([28, 17], [17, 28]), ([17, 29], [17, 29]), ([30, 28, 0, 1, 2, 3, 4, 5, 6, 7, 8, 9, 10, 11, 12, 13, 14, 15, 16, 17, 18, 19, 20, 21, 22, 23, 24, 25, 26, 27, 28, 29, 30], [30])])
def spec_PlaneOk.B1 : List Nat := [0, 1, 3, 7, 15, 31, 63, 127, 255, 511, 1023, 2047, 4095, 8191, 16383, 32767, 65535, 131071, 262143, 524287, 262143, 1310719, 4194303, 262143, 8650751, 262143, 33816575, 134217727, 268435455, 536870911, 1073741823, 2147483647]
theorem spec_PlaneOk.tab1 : rtab .any (opsOf Try.f85 1) = spec_PlaneOk.T1 := by kernel_rfl
theorem spec_PlaneOk.bits1 : waitsOk spec_PlaneOk.T1.2 spec_PlaneOk.B1 = true := by kernel_rfl
set_option maxHeartbeats 8000000 in
set_option maxRecDepth 100000 in
theorem spec_PlaneOk.calls (k : Nat) (a0_0 : Int) (a0_1 : Int) (a0_2 : Int) (a0_3 : Int) (r : Bool) (w : World) (h : spec_PlaneOk.f k a0_0 a0_1 a0_2 a0_3 = some r) :
  Calls Try.prog 85 #[.agg #[.int .i64 a0_0, .int .i64 a0_1, .int .i64 a0_2, .int .i64 a0_3]] w fun e w' => e = .returned (.bool r) ∧ Below w.heap.size w w' := by
 have hu23 := Try.underlying23
 have HB := Aside0.mk (Below.refl w.heap.size w)
 have H : ((spec_l3In.f a0_0 a0_1 a0_2 a0_3).bind fun t112 => (if t112 = true then (if a0_0 = 0 then (if a0_1 = 0 then (if a0_2 = 0 then (some false) else ((spec_l3Gcd.f k a0_0 a0_1).bind fun t113 => ((spec_l3Gcd.f k a0_2 a0_3).bind fun t114 => ((spec_l3Gcd.f k t113 t114).bind fun t115 => (some (t115 == 1)))))) else ((spec_l3Gcd.f k a0_0 a0_1).bind fun t116 => ((spec_l3Gcd.f k a0_2 a0_3).bind fun t117 => ((spec_l3Gcd.f k t116 t117).bind fun t118 => (some (t118 == 1)))))) else ((spec_l3Gcd.f k a0_0 a0_1).bind fun t119 => ((spec_l3Gcd.f k a0_2 a0_3).bind fun t120 => ((spec_l3Gcd.f k t119 t120).bind fun t121 => (some (t121 == 1)))))) else (some false))) = some r := h
 clear h
 obtain ⟨t112, A2, H⟩ := bi H
 by_cases c3 : t112 = true
 ·subst c3
  have H1 : (if a0_0 = 0 then (if a0_1 = 0 then (if a0_2 = 0 then (some false) else ((spec_l3Gcd.f k a0_0 a0_1).bind fun t113 => ((spec_l3Gcd.f k a0_2 a0_3).bind fun t114 => ((spec_l3Gcd.f k t113 t114).bind fun t115 => (some (t115 == 1)))))) else ((spec_l3Gcd.f k a0_0 a0_1).bind fun t116 => ((spec_l3Gcd.f k a0_2 a0_3).bind fun t117 => ((spec_l3Gcd.f k t116 t117).bind fun t118 => (some (t118 == 1)))))) else ((spec_l3Gcd.f k a0_0 a0_1).bind fun t119 => ((spec_l3Gcd.f k a0_2 a0_3).bind fun t120 => ((spec_l3Gcd.f k t119 t120).bind fun t121 => (some (t121 == 1)))))) = some r := by rw [if_pos rfl] at H; exact H
  clear H
  have H := H1
  clear H1
  by_cases c4 : a0_0 = 0
  ·rw [if_pos c4] at H
   have c4b0 : (a0_0 == 0) = true := beq_iff_eq.mpr c4
   have c4b1 : (a0_0 != 0) = false := bne_eq_false_iff_eq.mpr c4
   clear c4
   by_cases c5 : a0_1 = 0
   ·rw [if_pos c5] at H
    have c5b0 : (a0_1 == 0) = true := beq_iff_eq.mpr c5
    have c5b1 : (a0_1 != 0) = false := bne_eq_false_iff_eq.mpr c5
    clear c5
    by_cases c6 : a0_2 = 0
    ·rw [if_pos c6] at H
     have c6b0 : (a0_2 == 0) = true := beq_iff_eq.mpr c6
     have c6b1 : (a0_2 != 0) = false := bne_eq_false_iff_eq.mpr c6
     clear c6
     obtain rfl := Option.some.inj H
     go_enter Try.func85, Try.ntmps85
     try go_wp2_with (first | ((with_reducible refine gate_dst (N := 1) rfl ?_); refine box_event ?hg (N := 1) ?hd (cs := #[.int .i64 a0_0, .int .i64 a0_1, .int .i64 a0_2, .int .i64 a0_3]) (t := 23) ?hr ?_; (case hd => rfl); (case hg => rfl); (case hr => first | (go_simp; done) | (go_simp; rfl)); intro g1 hg w7 hbox hb; have bK1 := Aside0.mk (hbox); have bW1 := gx hg HB; have bE1 := gx hg HB; replace HB := bt HB hb; clear hb hbox hg))
     replace bK1 := Aside0.mk (blk_drew bK1.out)
     replace HB := Aside0.mk (below_drew1 HB.out)
     refine start_ (n := 32) (S := fun w' => w'.cell? ⟨g1, 0, none⟩ = some (.int .i64 a0_0) ∧ w'.cell? ⟨g1, 1, none⟩ = some (.int .i64 a0_1) ∧ w'.cell? ⟨g1, 2, none⟩ = some (.int .i64 a0_2) ∧ w'.cell? ⟨g1, 3, none⟩ = some (.int .i64 a0_3)) (ds := []) (bl 32 0) (by kernel_rfl) rfl rfl ⟨(blk_cell bK1.out 0).trans rfl, (blk_cell bK1.out 1).trans rfl, (blk_cell bK1.out 2).trans rfl, (blk_cell bK1.out 3).trans rfl⟩ (fun hHeld => ?_); refine with_tabW spec_PlaneOk.tab1 spec_PlaneOk.bits1 (fun HT_ HW_ => ?_)
     generalize w7.drew = w8 at bK1 HB hHeld ⊢
     refine tS 0 3 1 ?_
     refine oS 1 4 3 (fun K hK => ?_)
     refine gO Try.func126 #[.agg #[.int .i64 a0_0, .int .i64 a0_1, .int .i64 a0_2, .int .i64 a0_3]] ?_
     with_reducible refine (spec_l3In.calls a0_0 a0_1 a0_2 a0_3 true _ A2.out).mono ?_
     rintro e w9 ⟨rfl, hb⟩
     refine ⟨_, rfl, ?_⟩
     replace bK1 := kb bK1 hb
     replace HB := bt HB hb
     (try clear hb)
     (try clear hb2)
     (try clear hk)
     (try clear hi)
     refine ko hK (fun hHeld => ?_)
     clear hK K
     refine nm 4 ?_
     refine pS 2 5 7 ?_
     refine pS 3 6 15 ?_
     refine tS 4 7 31 ?_
     refine pS 5 8 63 ?_
     refine pS 6 9 127 ?_
     refine pS 7 10 255 ?_
     refine tS 8 11 511 ?_
     refine pS 9 12 1023 ?_
     refine pS 10 13 2047 ?_
     refine pS 11 14 4095 ?_
     refine pS 12 15 8191 ?_
     refine tS 13 16 16383 ?_
     refine pS 14 17 32767 ?_
     refine pS 15 18 65535 ?_
     refine pS 16 19 131071 ?_
     refine pS 17 20 262143 ?_
     refine pU 18 21 524287 ?_
     refine pU 19 22 1048575 ?_
     refine pU 20 23 2097151 ?_
     refine pU 21 24 4194303 ?_
     refine pU 22 25 8388607 ?_
     refine pU 23 26 16777215 ?_
     refine pU 24 27 33554431 ?_
     refine pU 25 28 67108863 ?_
     refine pU 26 29 134217727 ?_
     refine pU 27 30 268435455 ?_
     refine pU 28 31 536870911 ?_
     refine pU 29 32 1073741823 ?_
     refine pS 30 33 2147483647 ?_
     refine pS 31 2 4294967295 ?_
     refine done_ (done_of HT_.out (by kernel_rfl)) ?_
     try go_wp2
     go_ret
     exact fin HB
    rw [if_neg c6] at H
    have c6b0 : (a0_2 == 0) = false := beq_eq_false_iff_ne.mpr c6
    have c6b1 : (a0_2 != 0) = true := bne_iff_ne.mpr c6
    obtain ⟨t113, A10, H⟩ := bi H
    obtain ⟨t114, A11, H⟩ := bi H
    obtain ⟨t115, A12, H⟩ := bi H
    obtain rfl := Option.some.inj H
    go_enter Try.func85, Try.ntmps85
    try go_wp2_with (first | ((with_reducible refine gate_dst (N := 1) rfl ?_); refine box_event ?hg (N := 1) ?hd (cs := #[.int .i64 a0_0, .int .i64 a0_1, .int .i64 a0_2, .int .i64 a0_3]) (t := 23) ?hr ?_; (case hd => rfl); (case hg => rfl); (case hr => first | (go_simp; done) | (go_simp; rfl)); intro g1 hg w13 hbox hb; have bK1 := Aside0.mk (hbox); have bW1 := gx hg HB; have bE1 := gx hg HB; replace HB := bt HB hb; clear hb hbox hg))
    replace bK1 := Aside0.mk (blk_drew bK1.out)
    replace HB := Aside0.mk (below_drew1 HB.out)
    refine start_ (n := 32) (S := fun w' => w'.cell? ⟨g1, 0, none⟩ = some (.int .i64 a0_0) ∧ w'.cell? ⟨g1, 1, none⟩ = some (.int .i64 a0_1) ∧ w'.cell? ⟨g1, 2, none⟩ = some (.int .i64 a0_2) ∧ w'.cell? ⟨g1, 3, none⟩ = some (.int .i64 a0_3)) (ds := []) (bl 32 0) (by kernel_rfl) rfl rfl ⟨(blk_cell bK1.out 0).trans rfl, (blk_cell bK1.out 1).trans rfl, (blk_cell bK1.out 2).trans rfl, (blk_cell bK1.out 3).trans rfl⟩ (fun hHeld => ?_); refine with_tabW spec_PlaneOk.tab1 spec_PlaneOk.bits1 (fun HT_ HW_ => ?_)
    generalize w13.drew = w14 at bK1 HB hHeld ⊢
    refine tS 0 3 1 ?_
    refine oS 1 4 3 (fun K hK => ?_)
    refine gO Try.func126 #[.agg #[.int .i64 a0_0, .int .i64 a0_1, .int .i64 a0_2, .int .i64 a0_3]] ?_
    with_reducible refine (spec_l3In.calls a0_0 a0_1 a0_2 a0_3 true _ A2.out).mono ?_
    rintro e w15 ⟨rfl, hb⟩
    refine ⟨_, rfl, ?_⟩
    replace bK1 := kb bK1 hb
    replace HB := bt HB hb
    (try clear hb)
    (try clear hb2)
    (try clear hk)
    (try clear hi)
    refine ko hK (fun hHeld => ?_)
    clear hK K
    refine nm 4 ?_
    refine pS 2 5 7 ?_
    refine pS 3 6 15 ?_
    refine tS 4 7 31 ?_
    refine pS 5 8 63 ?_
    refine pS 6 9 127 ?_
    refine pS 7 10 255 ?_
    refine tS 8 11 511 ?_
    refine pS 9 12 1023 ?_
    refine pS 10 13 2047 ?_
    refine pS 11 14 4095 ?_
    refine pS 12 15 8191 ?_
    refine tS 13 16 16383 ?_
    refine pS 14 17 32767 ?_
    refine pS 15 18 65535 ?_
    refine pS 16 19 131071 ?_
    refine pS 17 20 262143 ?_
    refine pS 18 21 524287 ?_
    refine pS 20 23 1572863 ?_
    refine pS 23 26 9961471 ?_
    refine pS 25 28 43515903 ?_
    refine tS 19 22 44040191 ?_
    refine tS 21 24 46137343 ?_
    refine tS 24 27 62914559 ?_
    refine tS 26 29 130023423 ?_
    refine oS 22 25 134217727 (fun K hK => ?_)
    refine gO Try.func127 #[.int .i64 a0_0, .int .i64 a0_1] ?_
    with_reducible refine (spec_l3Gcd.calls k a0_0 a0_1 t113 _ A10.out).mono ?_
    rintro e w' ⟨rfl, ⟨nd, rfl⟩⟩
    refine ⟨_, rfl, ?_⟩
    refine ko hK (fun hHeld => ?_)
    clear hK K
    refine nm 25 ?_
    refine oS 27 30 268435455 (fun K hK => ?_)
    refine gO Try.func127 #[.int .i64 a0_2, .int .i64 a0_3] ?_
    with_reducible refine (spec_l3Gcd.calls k a0_2 a0_3 t114 _ A11.out).mono ?_
    rintro e w' ⟨rfl, ⟨nd, rfl⟩⟩
    refine ⟨_, rfl, ?_⟩
    refine ko hK (fun hHeld => ?_)
    clear hK K
    refine nm 30 ?_
    refine oS 28 31 536870911 (fun K hK => ?_)
    refine gO Try.func127 #[.int .i64 t113, .int .i64 t114] ?_
    with_reducible refine (spec_l3Gcd.calls k t113 t114 t115 _ A12.out).mono ?_
    rintro e w' ⟨rfl, ⟨nd, rfl⟩⟩
    refine ⟨_, rfl, ?_⟩
    refine ko hK (fun hHeld => ?_)
    clear hK K
    refine nm 31 ?_
    refine pS 29 32 1073741823 ?_
    refine pS 30 33 2147483647 ?_
    refine pS 31 2 4294967295 ?_
    refine done_ (done_of HT_.out (by kernel_rfl)) ?_
    try go_wp2
    go_ret
    exact fin HB
   rw [if_neg c5] at H
   have c5b0 : (a0_1 == 0) = false := beq_eq_false_iff_ne.mpr c5
   have c5b1 : (a0_1 != 0) = true := bne_iff_ne.mpr c5
   obtain ⟨t116, A16, H⟩ := bi H
   obtain ⟨t117, A17, H⟩ := bi H
   obtain ⟨t118, A18, H⟩ := bi H
   obtain rfl := Option.some.inj H
   go_enter Try.func85, Try.ntmps85
   try go_wp2_with (first | ((with_reducible refine gate_dst (N := 1) rfl ?_); refine box_event ?hg (N := 1) ?hd (cs := #[.int .i64 a0_0, .int .i64 a0_1, .int .i64 a0_2, .int .i64 a0_3]) (t := 23) ?hr ?_; (case hd => rfl); (case hg => rfl); (case hr => first | (go_simp; done) | (go_simp; rfl)); intro g1 hg w19 hbox hb; have bK1 := Aside0.mk (hbox); have bW1 := gx hg HB; have bE1 := gx hg HB; replace HB := bt HB hb; clear hb hbox hg))
   replace bK1 := Aside0.mk (blk_drew bK1.out)
   replace HB := Aside0.mk (below_drew1 HB.out)
   refine start_ (n := 32) (S := fun w' => w'.cell? ⟨g1, 0, none⟩ = some (.int .i64 a0_0) ∧ w'.cell? ⟨g1, 1, none⟩ = some (.int .i64 a0_1) ∧ w'.cell? ⟨g1, 2, none⟩ = some (.int .i64 a0_2) ∧ w'.cell? ⟨g1, 3, none⟩ = some (.int .i64 a0_3)) (ds := []) (bl 32 0) (by kernel_rfl) rfl rfl ⟨(blk_cell bK1.out 0).trans rfl, (blk_cell bK1.out 1).trans rfl, (blk_cell bK1.out 2).trans rfl, (blk_cell bK1.out 3).trans rfl⟩ (fun hHeld => ?_); refine with_tabW spec_PlaneOk.tab1 spec_PlaneOk.bits1 (fun HT_ HW_ => ?_)
   generalize w19.drew = w20 at bK1 HB hHeld ⊢
   refine tS 0 3 1 ?_
   refine oS 1 4 3 (fun K hK => ?_)
   refine gO Try.func126 #[.agg #[.int .i64 a0_0, .int .i64 a0_1, .int .i64 a0_2, .int .i64 a0_3]] ?_
   with_reducible refine (spec_l3In.calls a0_0 a0_1 a0_2 a0_3 true _ A2.out).mono ?_
   rintro e w21 ⟨rfl, hb⟩
   refine ⟨_, rfl, ?_⟩
   replace bK1 := kb bK1 hb
   replace HB := bt HB hb
   (try clear hb)
   (try clear hb2)
   (try clear hk)
   (try clear hi)
   refine ko hK (fun hHeld => ?_)
   clear hK K
   refine nm 4 ?_
   refine pS 2 5 7 ?_
   refine pS 3 6 15 ?_
   refine tS 4 7 31 ?_
   refine pS 5 8 63 ?_
   refine pS 6 9 127 ?_
   refine pS 7 10 255 ?_
   refine tS 8 11 511 ?_
   refine pS 9 12 1023 ?_
   refine pS 10 13 2047 ?_
   refine pS 11 14 4095 ?_
   refine pU 12 15 8191 ?_
   refine pU 13 16 16383 ?_
   refine pU 14 17 32767 ?_
   refine pS 15 18 65535 ?_
   refine pS 16 19 131071 ?_
   refine pS 17 20 262143 ?_
   refine pS 18 21 524287 ?_
   refine pS 20 23 1572863 ?_
   refine pS 23 26 9961471 ?_
   refine pS 25 28 43515903 ?_
   refine tS 19 22 44040191 ?_
   refine tS 21 24 46137343 ?_
   refine tS 24 27 62914559 ?_
   refine tS 26 29 130023423 ?_
   refine oS 22 25 134217727 (fun K hK => ?_)
   refine gO Try.func127 #[.int .i64 a0_0, .int .i64 a0_1] ?_
   with_reducible refine (spec_l3Gcd.calls k a0_0 a0_1 t116 _ A16.out).mono ?_
   rintro e w' ⟨rfl, ⟨nd, rfl⟩⟩
   refine ⟨_, rfl, ?_⟩
   refine ko hK (fun hHeld => ?_)
   clear hK K
   refine nm 25 ?_
   refine oS 27 30 268435455 (fun K hK => ?_)
   refine gO Try.func127 #[.int .i64 a0_2, .int .i64 a0_3] ?_
   with_reducible refine (spec_l3Gcd.calls k a0_2 a0_3 t117 _ A17.out).mono ?_
   rintro e w' ⟨rfl, ⟨nd, rfl⟩⟩
   refine ⟨_, rfl, ?_⟩
   refine ko hK (fun hHeld => ?_)
   clear hK K
   refine nm 30 ?_
   refine oS 28 31 536870911 (fun K hK => ?_)
   refine gO Try.func127 #[.int .i64 t116, .int .i64 t117] ?_
   with_reducible refine (spec_l3Gcd.calls k t116 t117 t118 _ A18.out).mono ?_
   rintro e w' ⟨rfl, ⟨nd, rfl⟩⟩
   refine ⟨_, rfl, ?_⟩
   refine ko hK (fun hHeld => ?_)
   clear hK K
   refine nm 31 ?_
   refine pS 29 32 1073741823 ?_
   refine pS 30 33 2147483647 ?_
   refine pS 31 2 4294967295 ?_
   refine done_ (done_of HT_.out (by kernel_rfl)) ?_
   try go_wp2
   go_ret
   exact fin HB
  rw [if_neg c4] at H
  have c4b0 : (a0_0 == 0) = false := beq_eq_false_iff_ne.mpr c4
  have c4b1 : (a0_0 != 0) = true := bne_iff_ne.mpr c4
  obtain ⟨t119, A22, H⟩ := bi H
  obtain ⟨t120, A23, H⟩ := bi H
  obtain ⟨t121, A24, H⟩ := bi H
  obtain rfl := Option.some.inj H
  go_enter Try.func85, Try.ntmps85
  try go_wp2_with (first | ((with_reducible refine gate_dst (N := 1) rfl ?_); refine box_event ?hg (N := 1) ?hd (cs := #[.int .i64 a0_0, .int .i64 a0_1, .int .i64 a0_2, .int .i64 a0_3]) (t := 23) ?hr ?_; (case hd => rfl); (case hg => rfl); (case hr => first | (go_simp; done) | (go_simp; rfl)); intro g1 hg w25 hbox hb; have bK1 := Aside0.mk (hbox); have bW1 := gx hg HB; have bE1 := gx hg HB; replace HB := bt HB hb; clear hb hbox hg))
  replace bK1 := Aside0.mk (blk_drew bK1.out)
  replace HB := Aside0.mk (below_drew1 HB.out)
  refine start_ (n := 32) (S := fun w' => w'.cell? ⟨g1, 0, none⟩ = some (.int .i64 a0_0) ∧ w'.cell? ⟨g1, 1, none⟩ = some (.int .i64 a0_1) ∧ w'.cell? ⟨g1, 2, none⟩ = some (.int .i64 a0_2) ∧ w'.cell? ⟨g1, 3, none⟩ = some (.int .i64 a0_3)) (ds := []) (bl 32 0) (by kernel_rfl) rfl rfl ⟨(blk_cell bK1.out 0).trans rfl, (blk_cell bK1.out 1).trans rfl, (blk_cell bK1.out 2).trans rfl, (blk_cell bK1.out 3).trans rfl⟩ (fun hHeld => ?_); refine with_tabW spec_PlaneOk.tab1 spec_PlaneOk.bits1 (fun HT_ HW_ => ?_)
  generalize w25.drew = w26 at bK1 HB hHeld ⊢
  refine tS 0 3 1 ?_
  refine oS 1 4 3 (fun K hK => ?_)
  refine gO Try.func126 #[.agg #[.int .i64 a0_0, .int .i64 a0_1, .int .i64 a0_2, .int .i64 a0_3]] ?_
  with_reducible refine (spec_l3In.calls a0_0 a0_1 a0_2 a0_3 true _ A2.out).mono ?_
  rintro e w27 ⟨rfl, hb⟩
  refine ⟨_, rfl, ?_⟩
  replace bK1 := kb bK1 hb
  replace HB := bt HB hb
  (try clear hb)
  (try clear hb2)
  (try clear hk)
  (try clear hi)
  refine ko hK (fun hHeld => ?_)
  clear hK K
  refine nm 4 ?_
  refine pS 2 5 7 ?_
  refine pS 3 6 15 ?_
  refine tS 4 7 31 ?_
  refine pS 5 8 63 ?_
  refine pS 6 9 127 ?_
  refine pU 7 10 255 ?_
  refine pU 8 11 511 ?_
  refine pU 9 12 1023 ?_
  refine pS 10 13 2047 ?_
  refine pS 11 14 4095 ?_
  refine pU 12 15 8191 ?_
  refine pU 13 16 16383 ?_
  refine pU 14 17 32767 ?_
  refine pS 15 18 65535 ?_
  refine pS 16 19 131071 ?_
  refine pS 17 20 262143 ?_
  refine pS 18 21 524287 ?_
  refine pS 20 23 1572863 ?_
  refine pS 23 26 9961471 ?_
  refine pS 25 28 43515903 ?_
  refine tS 19 22 44040191 ?_
  refine tS 21 24 46137343 ?_
  refine tS 24 27 62914559 ?_
  refine tS 26 29 130023423 ?_
  refine oS 22 25 134217727 (fun K hK => ?_)
  refine gO Try.func127 #[.int .i64 a0_0, .int .i64 a0_1] ?_
  with_reducible refine (spec_l3Gcd.calls k a0_0 a0_1 t119 _ A22.out).mono ?_
  rintro e w' ⟨rfl, ⟨nd, rfl⟩⟩
  refine ⟨_, rfl, ?_⟩
  refine ko hK (fun hHeld => ?_)
  clear hK K
  refine nm 25 ?_
  refine oS 27 30 268435455 (fun K hK => ?_)
  refine gO Try.func127 #[.int .i64 a0_2, .int .i64 a0_3] ?_
  with_reducible refine (spec_l3Gcd.calls k a0_2 a0_3 t120 _ A23.out).mono ?_
  rintro e w' ⟨rfl, ⟨nd, rfl⟩⟩
  refine ⟨_, rfl, ?_⟩
  refine ko hK (fun hHeld => ?_)
  clear hK K
  refine nm 30 ?_
  refine oS 28 31 536870911 (fun K hK => ?_)
  refine gO Try.func127 #[.int .i64 t119, .int .i64 t120] ?_
  with_reducible refine (spec_l3Gcd.calls k t119 t120 t121 _ A24.out).mono ?_
  rintro e w' ⟨rfl, ⟨nd, rfl⟩⟩
  refine ⟨_, rfl, ?_⟩
  refine ko hK (fun hHeld => ?_)
  clear hK K
  refine nm 31 ?_
  refine pS 29 32 1073741823 ?_
  refine pS 30 33 2147483647 ?_
  refine pS 31 2 4294967295 ?_
  refine done_ (done_of HT_.out (by kernel_rfl)) ?_
  try go_wp2
  go_ret
  exact fin HB
 replace c3 := Bool.eq_false_iff.mpr c3
 subst c3
 have H1 : (some false) = some r := by rw [if_neg (show ¬ (false = true) by decide)] at H; exact H
 clear H
 have H := H1
 clear H1
 obtain rfl := Option.some.inj H
 go_enter Try.func85, Try.ntmps85
 try go_wp2_with (first | ((with_reducible refine gate_dst (N := 1) rfl ?_); refine box_event ?hg (N := 1) ?hd (cs := #[.int .i64 a0_0, .int .i64 a0_1, .int .i64 a0_2, .int .i64 a0_3]) (t := 23) ?hr ?_; (case hd => rfl); (case hg => rfl); (case hr => first | (go_simp; done) | (go_simp; rfl)); intro g1 hg w28 hbox hb; have bK1 := Aside0.mk (hbox); have bW1 := gx hg HB; have bE1 := gx hg HB; replace HB := bt HB hb; clear hb hbox hg))
 replace bK1 := Aside0.mk (blk_drew bK1.out)
 replace HB := Aside0.mk (below_drew1 HB.out)
 refine start_ (n := 32) (S := fun w' => w'.cell? ⟨g1, 0, none⟩ = some (.int .i64 a0_0) ∧ w'.cell? ⟨g1, 1, none⟩ = some (.int .i64 a0_1) ∧ w'.cell? ⟨g1, 2, none⟩ = some (.int .i64 a0_2) ∧ w'.cell? ⟨g1, 3, none⟩ = some (.int .i64 a0_3)) (ds := []) (bl 32 0) (by kernel_rfl) rfl rfl ⟨(blk_cell bK1.out 0).trans rfl, (blk_cell bK1.out 1).trans rfl, (blk_cell bK1.out 2).trans rfl, (blk_cell bK1.out 3).trans rfl⟩ (fun hHeld => ?_); refine with_tabW spec_PlaneOk.tab1 spec_PlaneOk.bits1 (fun HT_ HW_ => ?_)
 generalize w28.drew = w29 at bK1 HB hHeld ⊢
 refine tS 0 3 1 ?_
 refine oS 1 4 3 (fun K hK => ?_)
 refine gO Try.func126 #[.agg #[.int .i64 a0_0, .int .i64 a0_1, .int .i64 a0_2, .int .i64 a0_3]] ?_
 with_reducible refine (spec_l3In.calls a0_0 a0_1 a0_2 a0_3 false _ A2.out).mono ?_
 rintro e w30 ⟨rfl, hb⟩
 refine ⟨_, rfl, ?_⟩
 replace bK1 := kb bK1 hb
 replace HB := bt HB hb
 (try clear hb)
 (try clear hb2)
 (try clear hk)
 (try clear hi)
 refine ko hK (fun hHeld => ?_)
 clear hK K
 refine nm 4 ?_
 refine pS 2 5 7 ?_
 refine pU 3 6 15 ?_
 refine pU 4 7 31 ?_
 refine pU 5 8 63 ?_
 refine pU 6 9 127 ?_
 refine pU 7 10 255 ?_
 refine pU 8 11 511 ?_
 refine pU 9 12 1023 ?_
 refine pU 10 13 2047 ?_
 refine pU 11 14 4095 ?_
 refine pU 12 15 8191 ?_
 refine pU 13 16 16383 ?_
 refine pU 14 17 32767 ?_
 refine pU 15 18 65535 ?_
 refine pS 16 19 131071 ?_
 refine pS 17 20 262143 ?_
 refine pU 18 21 524287 ?_
 refine pU 19 22 1048575 ?_
 refine pU 20 23 2097151 ?_
 refine pU 21 24 4194303 ?_
 refine pU 22 25 8388607 ?_
 refine pU 23 26 16777215 ?_
 refine pU 24 27 33554431 ?_
 refine pU 25 28 67108863 ?_
 refine pU 26 29 134217727 ?_
 refine pU 27 30 268435455 ?_
 refine pU 28 31 536870911 ?_
 refine pU 29 32 1073741823 ?_
 refine pS 30 33 2147483647 ?_
 refine pS 31 2 4294967295 ?_
 refine done_ (done_of HT_.out (by kernel_rfl)) ?_
 try go_wp2
 go_ret
 exact fin HB

end Go.Proofs.Ytndedincanmaeaa.Print
