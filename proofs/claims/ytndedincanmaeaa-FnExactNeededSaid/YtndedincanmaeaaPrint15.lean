-- Printed by a program of the session (mkprinter.py, over the kit's print); Lean checks it.
import Derived.Test.YtndedincanmaeaaCp
import Derived.Test.YtndedincanmaeaaPrint0
import Derived.Test.YtndedincanmaeaaPrint11
import Derived.Test.YtndedincanmaeaaPrint14
namespace Go.Proofs.Ytndedincanmaeaa.Print
open Go.RowKit Go.Proofs.YtndedincanmaeaaW.PrintWords Go.Proofs.YtndedincanmaeaaW.PrintLast Go.Proofs.Ytndedincanmaeaa.Cp
set_option linter.unusedVariables false
set_option linter.unusedSimpArgs false

/-! ### impl_clash3: function 165 -/
def impl_clash3.f (k : Nat) (a0_0 : Int) (a0_1 : Int) (a0_2 : Int) (a0_3 : Int) (a1_0 : Int) (a1_1 : Int) (a1_2 : Int) (a1_3 : Int) (a2_0 : Int) (a2_1 : Int) (a2_2 : Int) (a2_3 : Int) : Option (Bool) := (impl_normal.f a0_0 a0_1 a0_2 a0_3).bind fun bt310 => ((impl_normal.f a1_0 a1_1 a1_2 a1_3).bind fun bt313 => ((impl_normal.f a2_0 a2_1 a2_2 a2_3).bind fun bt316 => ((impl_det.f bt310.1 bt310.2.1 bt310.2.2 bt313.1 bt313.2.1 bt313.2.2 bt316.1 bt316.2.1 bt316.2.2).bind fun t322 => (if t322 = 0 then ((impl_crossOf.f bt310.1 bt310.2.1 bt310.2.2 bt313.1 bt313.2.1 bt313.2.2).bind fun bt323 => ((impl_crossOf.f bt313.1 bt313.2.1 bt313.2.2 bt316.1 bt316.2.1 bt316.2.2).bind fun bt327 => ((impl_dot.f bt327.1 bt327.2.1 bt327.2.2 bt323.1 bt323.2.1 bt323.2.2).bind fun t330 => ((impl_crossOf.f bt316.1 bt316.2.1 bt316.2.2 bt310.1 bt310.2.1 bt310.2.2).bind fun bt331 => ((impl_dot.f bt331.1 bt331.2.1 bt331.2.2 bt323.1 bt323.2.1 bt323.2.2).bind fun t334 => ((impl_dot.f bt323.1 bt323.2.1 bt323.2.2 bt323.1 bt323.2.1 bt323.2.2).bind fun t335 => ((impl_weighs.f k (([t330, t334, t335] : List Int)) (([a0_3, a1_3, a2_3] : List Int))).bind fun t342 => (some t342)))))))) else (some false)))))
theorem impl_clash3.mono : ∀ a0 a1 a2 a3 a4 a5 a6 a7 a8 a9 a10 a11 k, LeO (impl_clash3.f k a0 a1 a2 a3 a4 a5 a6 a7 a8 a9 a10 a11) (impl_clash3.f (k + 1) a0 a1 a2 a3 a4 a5 a6 a7 a8 a9 a10 a11) := by
 intro a0 a1 a2 a3 a4 a5 a6 a7 a8 a9 a10 a11 k
 unfold impl_clash3.f
 repeat' first
   | (with_reducible exact impl_weighs.mono _ _ _)
   | (with_reducible exact LeO.refl _)
   | (with_reducible exact LeO.none _)
   | (with_reducible refine LeO.ite ?_ ?_)
   | (with_reducible refine LeO.bind ?_ (fun _ => ?_))
   | exact impl_weighs.mono _ _ _
   | exact LeO.none _
   | refine LeO.ite ?_ ?_
   | refine LeO.bind ?_ (fun _ => ?_)
def impl_clash3.T1 : Bool × List (List Nat × List Nat) := (true, [([], []), ([0], [0]), ([], []), ([2, 1], [2]), ([], []), ([4, 3], [4]), ([], []), ([], []), ([], []), ([6, 1, 5, 0, 1, 6, 7, 8], [1, 6]), ([7, 3, 9, 0, 1, 2, 3, 6, 7, 8, 9], [3, 7]), ([8, 5, 10, 0, 1, 2, 3, 4, 5, 6, 7, 8, 9, 10], [5, 8])])
def impl_clash3.B1 : List Nat := [0, 1, 0, 7, 0, 31, 0, 0, 0, 511, 1023, 2047]
theorem impl_clash3.tab1 : rtab .any (opsOf Try.f165 1) = impl_clash3.T1 := by kernel_rfl
theorem impl_clash3.bits1 : waitsOk impl_clash3.T1.2 impl_clash3.B1 = true := by kernel_rfl
def impl_clash3.T5 : Bool × List (List Nat × List Nat) := (true, [([], []), ([], []), ([0, 1], [0, 1]), ([], []), ([2, 3, 2], [2, 3]), ([], []), ([], []), ([5, 6, 4], [5, 6]), ([], []), ([7, 8, 7], [7, 8]), ([], []), ([], []), ([10, 11, 9], [10, 11]), ([4, 9, 12], [4, 9, 12]), ([], []), ([14], [14]), ([], []), ([16], [16]), ([], []), ([18], [18]), ([15, 17, 19], [15, 17, 19]), ([13, 20, 12], [13, 20]), ([21, 21, 0, 1, 2, 3, 4, 5, 6, 7, 8, 9, 10, 11, 12, 13, 14, 15, 16, 17, 18, 19, 20, 21], [21])])
def impl_clash3.B5 : List Nat := [0, 0, 3, 0, 15, 0, 0, 127, 0, 511, 0, 0, 4095, 8191, 0, 16384, 0, 65536, 0, 262144, 1032192, 2097151, 4194303]
theorem impl_clash3.tab5 : rtab .any (opsOf Try.f165 5) = impl_clash3.T5 := by kernel_rfl
theorem impl_clash3.bits5 : waitsOk impl_clash3.T5.2 impl_clash3.B5 = true := by kernel_rfl
set_option maxHeartbeats 8000000 in
set_option maxRecDepth 100000 in
theorem impl_clash3.calls (k : Nat) (a0_0 : Int) (a0_1 : Int) (a0_2 : Int) (a0_3 : Int) (a1_0 : Int) (a1_1 : Int) (a1_2 : Int) (a1_3 : Int) (a2_0 : Int) (a2_1 : Int) (a2_2 : Int) (a2_3 : Int) (r : Bool) (w : World) (h : impl_clash3.f k a0_0 a0_1 a0_2 a0_3 a1_0 a1_1 a1_2 a1_3 a2_0 a2_1 a2_2 a2_3 = some r) :
  Calls Try.prog 165 #[.agg #[.int .i64 a0_0, .int .i64 a0_1, .int .i64 a0_2, .int .i64 a0_3], .agg #[.int .i64 a1_0, .int .i64 a1_1, .int .i64 a1_2, .int .i64 a1_3], .agg #[.int .i64 a2_0, .int .i64 a2_1, .int .i64 a2_2, .int .i64 a2_3]] w fun e w' => e = .returned (.bool r) ∧ Below w.heap.size w w' := by
 have hu23 := Try.underlying23
 have hu128 := Try.underlying128
 have HB := Aside0.mk (Below.refl w.heap.size w)
 have H : ((impl_normal.f a0_0 a0_1 a0_2 a0_3).bind fun bt310 => ((impl_normal.f a1_0 a1_1 a1_2 a1_3).bind fun bt313 => ((impl_normal.f a2_0 a2_1 a2_2 a2_3).bind fun bt316 => ((impl_det.f bt310.1 bt310.2.1 bt310.2.2 bt313.1 bt313.2.1 bt313.2.2 bt316.1 bt316.2.1 bt316.2.2).bind fun t322 => (if t322 = 0 then ((impl_crossOf.f bt310.1 bt310.2.1 bt310.2.2 bt313.1 bt313.2.1 bt313.2.2).bind fun bt323 => ((impl_crossOf.f bt313.1 bt313.2.1 bt313.2.2 bt316.1 bt316.2.1 bt316.2.2).bind fun bt327 => ((impl_dot.f bt327.1 bt327.2.1 bt327.2.2 bt323.1 bt323.2.1 bt323.2.2).bind fun t330 => ((impl_crossOf.f bt316.1 bt316.2.1 bt316.2.2 bt310.1 bt310.2.1 bt310.2.2).bind fun bt331 => ((impl_dot.f bt331.1 bt331.2.1 bt331.2.2 bt323.1 bt323.2.1 bt323.2.2).bind fun t334 => ((impl_dot.f bt323.1 bt323.2.1 bt323.2.2 bt323.1 bt323.2.1 bt323.2.2).bind fun t335 => ((impl_weighs.f k (([t330, t334, t335] : List Int)) (([a0_3, a1_3, a2_3] : List Int))).bind fun t342 => (some t342)))))))) else (some false)))))) = some r := h
 clear h
 obtain ⟨⟨t310, t311, t312⟩, A4, H⟩ := bi H
 dsimp only at H
 obtain ⟨⟨t313, t314, t315⟩, A5, H⟩ := bi H
 dsimp only at H
 obtain ⟨⟨t316, t317, t318⟩, A6, H⟩ := bi H
 dsimp only at H
 obtain ⟨t322, A7, H⟩ := bi H
 by_cases c8 : t322 = 0
 ·rw [if_pos c8] at H
  have c8b0 : (t322 == 0) = true := beq_iff_eq.mpr c8
  have c8b1 : (t322 != 0) = false := bne_eq_false_iff_eq.mpr c8
  clear c8
  obtain ⟨⟨t323, t324, t325⟩, A9, H⟩ := bi H
  dsimp only at H
  obtain ⟨⟨t327, t328, t329⟩, A10, H⟩ := bi H
  dsimp only at H
  obtain ⟨t330, A11, H⟩ := bi H
  obtain ⟨⟨t331, t332, t333⟩, A12, H⟩ := bi H
  dsimp only at H
  obtain ⟨t334, A13, H⟩ := bi H
  obtain ⟨t335, A14, H⟩ := bi H
  obtain ⟨y336, hy336⟩ : ∃ y_ : List Int, y_ = (([t330, t334, t335] : List Int)) := ⟨_, rfl⟩
  replace H : ((impl_weighs.f k y336 (([a0_3, a1_3, a2_3] : List Int))).bind fun t342 => (some t342)) = some r := by first | (rw [hy336]; with_reducible exact H) | (have H2_ := (Option.bind_some _ _).symm.trans H; rw [hy336]; with_reducible exact H2_) | (have H2_ := (Option.bind_some _ _).symm.trans H; with_reducible exact H2_) | with_reducible exact H | (rw [hy336]; exact H) | exact H
  have Ny336 := Aside0.mk hy336
  clear hy336
  obtain ⟨y339, hy339⟩ : ∃ y_ : List Int, y_ = (([a0_3, a1_3, a2_3] : List Int)) := ⟨_, rfl⟩
  replace H : ((impl_weighs.f k y336 y339).bind fun t342 => (some t342)) = some r := by first | (rw [hy339]; with_reducible exact H) | (have H2_ := (Option.bind_some _ _).symm.trans H; rw [hy339]; with_reducible exact H2_) | (have H2_ := (Option.bind_some _ _).symm.trans H; with_reducible exact H2_) | with_reducible exact H | (rw [hy339]; exact H) | exact H
  have Ny339 := Aside0.mk hy339
  clear hy339
  obtain ⟨t342, A15, H⟩ := bi H
  obtain rfl := Option.some.inj H
  go_enter Try.func165, Try.ntmps165
  try go_wp2_with (first | ((with_reducible refine gate_dst (N := 3) rfl ?_); refine box_event ?hg (N := 3) ?hd (cs := #[.int .i64 a0_0, .int .i64 a0_1, .int .i64 a0_2, .int .i64 a0_3]) (t := 23) ?hr ?_; (case hd => rfl); (case hg => rfl); (case hr => first | (go_simp; done) | (go_simp; rfl)); intro g1 hg w16 hbox hb; have bK1 := Aside0.mk (hbox); have bW1 := gx hg HB; have bE1 := gx hg HB; replace HB := bt HB hb; clear hb hbox hg) | ((with_reducible refine gate_dst (N := 4) rfl ?_); refine box_event ?hg (N := 4) ?hd (cs := #[.int .i64 a1_0, .int .i64 a1_1, .int .i64 a1_2, .int .i64 a1_3]) (t := 23) ?hr ?_; (case hd => rfl); (case hg => rfl); (case hr => first | (go_simp; done) | (go_simp; rfl)); intro g2 hg w17 hbox hb; have n0_ := kb bK1 hb; have n1_ := bt HB hb; have n2_ := Aside0.mk (hbox); have n3_ := gx hg HB; have n4_ := gx hg HB; have n5_ := nl hg bK1; have n6_ := nr hg bK1; clear bK1; clear HB; have bK1 := n0_; have HB := n1_; have bK2 := n2_; have bW2 := n3_; have bE2 := n4_; have bN1_2 := n5_; have bN2_1 := n6_; clear n0_ n1_ n2_ n3_ n4_ n5_ n6_; clear hb hbox hg) | ((with_reducible refine gate_dst (N := 5) rfl ?_); refine box_event ?hg (N := 5) ?hd (cs := #[.int .i64 a2_0, .int .i64 a2_1, .int .i64 a2_2, .int .i64 a2_3]) (t := 23) ?hr ?_; (case hd => rfl); (case hg => rfl); (case hr => first | (go_simp; done) | (go_simp; rfl)); intro g3 hg w18 hbox hb; have n0_ := kb bK1 hb; have n1_ := kb bK2 hb; have n2_ := bt HB hb; have n3_ := Aside0.mk (hbox); have n4_ := gx hg HB; have n5_ := gx hg HB; have n6_ := nl hg bK1; have n7_ := nr hg bK1; have n8_ := nl hg bK2; have n9_ := nr hg bK2; clear bK1; clear bK2; clear HB; have bK1 := n0_; have bK2 := n1_; have HB := n2_; have bK3 := n3_; have bW3 := n4_; have bE3 := n5_; have bN1_3 := n6_; have bN3_1 := n7_; have bN2_3 := n8_; have bN3_2 := n9_; clear n0_ n1_ n2_ n3_ n4_ n5_ n6_ n7_ n8_ n9_; clear hb hbox hg))
  replace bK1 := Aside0.mk (blk_drew bK1.out)
  replace bK2 := Aside0.mk (blk_drew bK2.out)
  replace bK3 := Aside0.mk (blk_drew bK3.out)
  replace HB := Aside0.mk (below_drew1 HB.out)
  refine start_ (n := 12) (S := fun w' => True) (ds := []) (bl 12 0) (by kernel_rfl) rfl rfl trivial (fun hHeld => ?_); refine with_tabW impl_clash3.tab1 impl_clash3.bits1 (fun HT_ HW_ => ?_)
  generalize w18.drew = w19 at bK1 bK2 bK3 HB hHeld ⊢
  refine inv_at [0, 1, 2, 3, 4, 5, 6, 7, 8, 9, 10, 11] (fun a0_ b a w' => ∃ (g4 : Nat) (g5 : Nat) (g6 : Nat) (m6_ : Value) (m7_ : Value) (m8_ : Value), a = putSel a0_ b [(0, 11, .agg #[.int .i64 a0_0, .int .i64 a0_1, .int .i64 a0_2, .int .i64 a0_3]), (1, 12, .agg #[.int .i64 t310, .int .i64 t311, .int .i64 t312]), (2, 13, .agg #[.int .i64 a1_0, .int .i64 a1_1, .int .i64 a1_2, .int .i64 a1_3]), (3, 14, .agg #[.int .i64 t313, .int .i64 t314, .int .i64 t315]), (4, 15, .agg #[.int .i64 a2_0, .int .i64 a2_1, .int .i64 a2_2, .int .i64 a2_3]), (5, 16, .agg #[.int .i64 t316, .int .i64 t317, .int .i64 t318]), (6, 7, m6_), (7, 8, m7_), (8, 9, m8_)] ∧ (w'.heap[g1]? = some (.cells #[.int .i64 a0_0, .int .i64 a0_1, .int .i64 a0_2, .int .i64 a0_3] 23 (0, 0))) ∧ (w'.heap[g2]? = some (.cells #[.int .i64 a1_0, .int .i64 a1_1, .int .i64 a1_2, .int .i64 a1_3] 23 (0, 0))) ∧ (w'.heap[g3]? = some (.cells #[.int .i64 a2_0, .int .i64 a2_1, .int .i64 a2_2, .int .i64 a2_3] 23 (0, 0))) ∧ (Below w.heap.size w w') ∧ (b 6 = true → b 7 = true → g5 ≠ g4) ∧ (b 6 = true → b 7 = true → g4 ≠ g5) ∧ (b 6 = true → b 8 = true → g6 ≠ g4) ∧ (b 6 = true → b 8 = true → g4 ≠ g6) ∧ (b 7 = true → b 8 = true → g6 ≠ g5) ∧ (b 7 = true → b 8 = true → g5 ≠ g6) ∧ (b 6 = true → b 9 = false → w'.heap[g4]? = some (.cells #[.int .i64 0, .int .i64 0, .int .i64 0] 128 (0, 0))) ∧ (b 6 = true → w.heap.size ≤ g4) ∧ (b 6 = true → w.heap.size ≤ g4) ∧ (b 6 = true → g1 ≠ g4) ∧ (b 6 = true → g4 ≠ g1) ∧ (b 6 = true → g2 ≠ g4) ∧ (b 6 = true → g4 ≠ g2) ∧ (b 6 = true → g3 ≠ g4) ∧ (b 6 = true → g4 ≠ g3) ∧ (b 7 = true → b 10 = false → w'.heap[g5]? = some (.cells #[.int .i64 0, .int .i64 0, .int .i64 0] 128 (0, 0))) ∧ (b 7 = true → w.heap.size ≤ g5) ∧ (b 7 = true → w.heap.size ≤ g5) ∧ (b 7 = true → g1 ≠ g5) ∧ (b 7 = true → g5 ≠ g1) ∧ (b 7 = true → g2 ≠ g5) ∧ (b 7 = true → g5 ≠ g2) ∧ (b 7 = true → g3 ≠ g5) ∧ (b 7 = true → g5 ≠ g3) ∧ (b 8 = true → b 11 = false → w'.heap[g6]? = some (.cells #[.int .i64 0, .int .i64 0, .int .i64 0] 128 (0, 0))) ∧ (b 8 = true → w.heap.size ≤ g6) ∧ (b 8 = true → w.heap.size ≤ g6) ∧ (b 8 = true → g1 ≠ g6) ∧ (b 8 = true → g6 ≠ g1) ∧ (b 8 = true → g2 ≠ g6) ∧ (b 8 = true → g6 ≠ g2) ∧ (b 8 = true → g3 ≠ g6) ∧ (b 8 = true → g6 ≠ g3) ∧ (b 9 = true → w'.heap[g4]? = some (.cells #[.int .i64 t310, .int .i64 t311, .int .i64 t312] 128 (0, 0))) ∧ (b 10 = true → w'.heap[g5]? = some (.cells #[.int .i64 t313, .int .i64 t314, .int .i64 t315] 128 (0, 0))) ∧ (b 11 = true → w'.heap[g6]? = some (.cells #[.int .i64 t316, .int .i64 t317, .int .i64 t318] 128 (0, 0))) ∧ (b 6 = true → (m6_ : Value) = .pointer (some ⟨g4, 0, none⟩)) ∧ (b 7 = true → (m7_ : Value) = .pointer (some ⟨g5, 0, none⟩)) ∧ (b 8 = true → (m8_ : Value) = .pointer (some ⟨g6, 0, none⟩))) HT_.out HW_.out (by kernel_rfl) (by kernel_rfl) ?_ ?_ ?_
  ·exact ⟨0, 0, 0, .bool false, .bool false, .bool false, by simp only [putSel, Bool.false_eq_true, if_false], bK1.out, bK2.out, bK3.out, HB.out, fun h_ => absurd h_ (by decide), fun h_ => absurd h_ (by decide), fun h_ => absurd h_ (by decide), fun h_ => absurd h_ (by decide), fun h_ => absurd h_ (by decide), fun h_ => absurd h_ (by decide), fun h_ => absurd h_ (by decide), fun h_ => absurd h_ (by decide), fun h_ => absurd h_ (by decide), fun h_ => absurd h_ (by decide), fun h_ => absurd h_ (by decide), fun h_ => absurd h_ (by decide), fun h_ => absurd h_ (by decide), fun h_ => absurd h_ (by decide), fun h_ => absurd h_ (by decide), fun h_ => absurd h_ (by decide), fun h_ => absurd h_ (by decide), fun h_ => absurd h_ (by decide), fun h_ => absurd h_ (by decide), fun h_ => absurd h_ (by decide), fun h_ => absurd h_ (by decide), fun h_ => absurd h_ (by decide), fun h_ => absurd h_ (by decide), fun h_ => absurd h_ (by decide), fun h_ => absurd h_ (by decide), fun h_ => absurd h_ (by decide), fun h_ => absurd h_ (by decide), fun h_ => absurd h_ (by decide), fun h_ => absurd h_ (by decide), fun h_ => absurd h_ (by decide), fun h_ => absurd h_ (by decide), fun h_ => absurd h_ (by decide), fun h_ => absurd h_ (by decide), fun h_ => absurd h_ (by decide), fun h_ => absurd h_ (by decide), fun h_ => absurd h_ (by decide), fun h_ => absurd h_ (by decide), fun h_ => absurd h_ (by decide), fun h_ => absurd h_ (by decide)⟩
  ·skip
   clear bK1 bK2 bK3 HB
   refine steps_cons ?_ ?_
   ·rintro b a w' ⟨g4, g5, g6, m6_, m7_, m8_, ha, qK1, qK2, qK3, Q_HB, qN5_4, qN4_5, qN6_4, qN4_6, qN6_5, qN5_6, qK4, qW4, qE4, qN1_4, qN4_1, qN2_4, qN4_2, qN3_4, qN4_3, qK5, qW5, qE5, qN1_5, qN5_1, qN2_5, qN5_2, qN3_5, qN5_3, qK6, qW6, qE6, qN1_6, qN6_1, qN2_6, qN6_2, qN3_6, qN6_3, qK4_e9, qK5_e10, qK6_e11, Q_X6_, Q_X7_, Q_X8_⟩ hb_ hon hoff
    refine ⟨_, rfl, fun K hK => ?_⟩
    have e3 : a.tmps[3]? = some (.pointer (some ⟨g1, 0, none⟩)) := by rw [ha]; exact (putSel_off rfl).trans rfl
    replace ha := Aside0.mk ha
    have bK1 := Aside0.mk qK1
    have bK2 := Aside0.mk qK2
    have bK3 := Aside0.mk qK3
    have HB := Aside0.mk Q_HB
    have hc0_ : w'.cell? ⟨g1, 0, none⟩ = some (.int .i64 a0_0) := (blk_cell bK1.out 0).trans rfl
    have hc1_ : w'.cell? ⟨g1, 1, none⟩ = some (.int .i64 a0_1) := (blk_cell bK1.out 1).trans rfl
    have hc2_ : w'.cell? ⟨g1, 2, none⟩ = some (.int .i64 a0_2) := (blk_cell bK1.out 2).trans rfl
    have hc3_ : w'.cell? ⟨g1, 3, none⟩ = some (.int .i64 a0_3) := (blk_cell bK1.out 3).trans rfl
    refine value_ (w1 := w') (v := .agg #[.int .i64 a0_0, .int .i64 a0_1, .int .i64 a0_2, .int .i64 a0_3]) (by rfl) rfl ?_ ?_
    ·go_simp
     (try simp only [i64_w])
     try rfl
    refine hK.out _ _ ⟨g4, g5, g6, m6_, m7_, m8_, (by rw [ha.out]; exact putSel_upk 0 hb_ rfl rfl rfl), qK1, qK2, qK3, Q_HB, qN5_4, qN4_5, qN6_4, qN4_6, qN6_5, qN5_6, qK4, qW4, qE4, qN1_4, qN4_1, qN2_4, qN4_2, qN3_4, qN4_3, qK5, qW5, qE5, qN1_5, qN5_1, qN2_5, qN5_2, qN3_5, qN5_3, qK6, qW6, qE6, qN1_6, qN6_1, qN2_6, qN6_2, qN3_6, qN6_3, fun h0_ => absurd ((hoff 9 (by kernel_rfl)).symm.trans h0_) (by decide), fun h0_ => absurd ((hoff 10 (by kernel_rfl)).symm.trans h0_) (by decide), fun h0_ => absurd ((hoff 11 (by kernel_rfl)).symm.trans h0_) (by decide), Q_X6_, Q_X7_, Q_X8_⟩
   refine steps_cons ?_ ?_
   ·rintro b a w' ⟨g4, g5, g6, m6_, m7_, m8_, ha, qK1, qK2, qK3, Q_HB, qN5_4, qN4_5, qN6_4, qN4_6, qN6_5, qN5_6, qK4, qW4, qE4, qN1_4, qN4_1, qN2_4, qN4_2, qN3_4, qN4_3, qK5, qW5, qE5, qN1_5, qN5_1, qN2_5, qN5_2, qN3_5, qN5_3, qK6, qW6, qE6, qN1_6, qN6_1, qN2_6, qN6_2, qN3_6, qN6_3, qK4_e9, qK5_e10, qK6_e11, Q_X6_, Q_X7_, Q_X8_⟩ hb_ hon hoff
    refine ⟨_, rfl, fun K hK => ?_⟩
    have e11 : a.tmps[11]? = some (.agg #[.int .i64 a0_0, .int .i64 a0_1, .int .i64 a0_2, .int .i64 a0_3]) := by rw [ha]; exact putSel_on (e := (0, 11, .agg #[.int .i64 a0_0, .int .i64 a0_1, .int .i64 a0_2, .int .i64 a0_3])) 0 rfl rfl (hon 0 (by kernel_rfl)) rfl
    replace ha := Aside0.mk ha
    have bK1 := Aside0.mk qK1
    have bK2 := Aside0.mk qK2
    have bK3 := Aside0.mk qK3
    have HB := Aside0.mk Q_HB
    refine goes_ Try.func149 (by kernel_rfl) rfl #[.agg #[.int .i64 a0_0, .int .i64 a0_1, .int .i64 a0_2, .int .i64 a0_3]] (by rfl) rfl rfl (by first | (simp only [List.map_toArray, List.map_cons, List.map_nil, Act.eval, Array.getD_eq_getD_getElem?, Option.getD_some, e11]; done) | (simp only [List.map_toArray, List.map_cons, List.map_nil, Act.eval, Array.getD_eq_getD_getElem?, Option.getD_some, e11]; rfl)) ?_
    with_reducible refine (impl_normal.calls a0_0 a0_1 a0_2 a0_3 t310 t311 t312 _ A4.out).mono ?_
    rintro e w20 ⟨rfl, hb⟩
    refine ⟨_, rfl, ?_⟩
    have n0_ := kb bK1 hb
    have n1_ := kb bK2 hb
    have n2_ := kb bK3 hb
    have n3_ := bt HB hb
    have zK4 := fun (h0_ : b 6 = true) (h1_ : b 9 = false) => (show w20.heap[g4]? = some (.cells #[.int .i64 0, .int .i64 0, .int .i64 0] 128 (0, 0)) from by first | exact (blk_below (g := g4) (o := .cells #[.int .i64 0, .int .i64 0, .int .i64 0] 128 (0, 0)) (by (with_reducible repeat (first | refine blk_drewN ?_ _ | refine blk_drew ?_ | refine blk_alloc ?_ _)); exact (qK4 h0_ h1_)) hb))
    have zK5 := fun (h0_ : b 7 = true) (h1_ : b 10 = false) => (show w20.heap[g5]? = some (.cells #[.int .i64 0, .int .i64 0, .int .i64 0] 128 (0, 0)) from by first | exact (blk_below (g := g5) (o := .cells #[.int .i64 0, .int .i64 0, .int .i64 0] 128 (0, 0)) (by (with_reducible repeat (first | refine blk_drewN ?_ _ | refine blk_drew ?_ | refine blk_alloc ?_ _)); exact (qK5 h0_ h1_)) hb))
    have zK6 := fun (h0_ : b 8 = true) (h1_ : b 11 = false) => (show w20.heap[g6]? = some (.cells #[.int .i64 0, .int .i64 0, .int .i64 0] 128 (0, 0)) from by first | exact (blk_below (g := g6) (o := .cells #[.int .i64 0, .int .i64 0, .int .i64 0] 128 (0, 0)) (by (with_reducible repeat (first | refine blk_drewN ?_ _ | refine blk_drew ?_ | refine blk_alloc ?_ _)); exact (qK6 h0_ h1_)) hb))
    clear bK1
    clear bK2
    clear bK3
    clear HB
    have bK1 := n0_
    have bK2 := n1_
    have bK3 := n2_
    have HB := n3_
    clear n0_ n1_ n2_ n3_
    (try clear hb)
    (try clear hb2)
    (try clear hk)
    (try clear hi)
    refine hK.out _ _ ⟨g4, g5, g6, m6_, m7_, m8_, (by rw [ha.out]; exact putSel_upk 1 hb_ rfl rfl rfl), (kbx bK1), (kbx bK2), (kbx bK3), (hbx HB), qN5_4, qN4_5, qN6_4, qN4_6, qN6_5, qN5_6, zK4, qW4, qE4, qN1_4, qN4_1, qN2_4, qN4_2, qN3_4, qN4_3, zK5, qW5, qE5, qN1_5, qN5_1, qN2_5, qN5_2, qN3_5, qN5_3, zK6, qW6, qE6, qN1_6, qN6_1, qN2_6, qN6_2, qN3_6, qN6_3, fun h0_ => absurd ((hoff 9 (by kernel_rfl)).symm.trans h0_) (by decide), fun h0_ => absurd ((hoff 10 (by kernel_rfl)).symm.trans h0_) (by decide), fun h0_ => absurd ((hoff 11 (by kernel_rfl)).symm.trans h0_) (by decide), Q_X6_, Q_X7_, Q_X8_⟩
   refine steps_cons ?_ ?_
   ·rintro b a w' ⟨g4, g5, g6, m6_, m7_, m8_, ha, qK1, qK2, qK3, Q_HB, qN5_4, qN4_5, qN6_4, qN4_6, qN6_5, qN5_6, qK4, qW4, qE4, qN1_4, qN4_1, qN2_4, qN4_2, qN3_4, qN4_3, qK5, qW5, qE5, qN1_5, qN5_1, qN2_5, qN5_2, qN3_5, qN5_3, qK6, qW6, qE6, qN1_6, qN6_1, qN2_6, qN6_2, qN3_6, qN6_3, qK4_e9, qK5_e10, qK6_e11, Q_X6_, Q_X7_, Q_X8_⟩ hb_ hon hoff
    refine ⟨_, rfl, fun K hK => ?_⟩
    have e4 : a.tmps[4]? = some (.pointer (some ⟨g2, 0, none⟩)) := by rw [ha]; exact (putSel_off rfl).trans rfl
    replace ha := Aside0.mk ha
    have bK1 := Aside0.mk qK1
    have bK2 := Aside0.mk qK2
    have bK3 := Aside0.mk qK3
    have HB := Aside0.mk Q_HB
    have hc0_ : w'.cell? ⟨g2, 0, none⟩ = some (.int .i64 a1_0) := (blk_cell bK2.out 0).trans rfl
    have hc1_ : w'.cell? ⟨g2, 1, none⟩ = some (.int .i64 a1_1) := (blk_cell bK2.out 1).trans rfl
    have hc2_ : w'.cell? ⟨g2, 2, none⟩ = some (.int .i64 a1_2) := (blk_cell bK2.out 2).trans rfl
    have hc3_ : w'.cell? ⟨g2, 3, none⟩ = some (.int .i64 a1_3) := (blk_cell bK2.out 3).trans rfl
    refine value_ (w1 := w') (v := .agg #[.int .i64 a1_0, .int .i64 a1_1, .int .i64 a1_2, .int .i64 a1_3]) (by rfl) rfl ?_ ?_
    ·go_simp
     (try simp only [i64_w])
     try rfl
    refine hK.out _ _ ⟨g4, g5, g6, m6_, m7_, m8_, (by rw [ha.out]; exact putSel_upk 2 hb_ rfl rfl rfl), qK1, qK2, qK3, Q_HB, qN5_4, qN4_5, qN6_4, qN4_6, qN6_5, qN5_6, qK4, qW4, qE4, qN1_4, qN4_1, qN2_4, qN4_2, qN3_4, qN4_3, qK5, qW5, qE5, qN1_5, qN5_1, qN2_5, qN5_2, qN3_5, qN5_3, qK6, qW6, qE6, qN1_6, qN6_1, qN2_6, qN6_2, qN3_6, qN6_3, fun h0_ => absurd ((hoff 9 (by kernel_rfl)).symm.trans h0_) (by decide), fun h0_ => absurd ((hoff 10 (by kernel_rfl)).symm.trans h0_) (by decide), fun h0_ => absurd ((hoff 11 (by kernel_rfl)).symm.trans h0_) (by decide), Q_X6_, Q_X7_, Q_X8_⟩
   refine steps_cons ?_ ?_
   ·rintro b a w' ⟨g4, g5, g6, m6_, m7_, m8_, ha, qK1, qK2, qK3, Q_HB, qN5_4, qN4_5, qN6_4, qN4_6, qN6_5, qN5_6, qK4, qW4, qE4, qN1_4, qN4_1, qN2_4, qN4_2, qN3_4, qN4_3, qK5, qW5, qE5, qN1_5, qN5_1, qN2_5, qN5_2, qN3_5, qN5_3, qK6, qW6, qE6, qN1_6, qN6_1, qN2_6, qN6_2, qN3_6, qN6_3, qK4_e9, qK5_e10, qK6_e11, Q_X6_, Q_X7_, Q_X8_⟩ hb_ hon hoff
    refine ⟨_, rfl, fun K hK => ?_⟩
    have e13 : a.tmps[13]? = some (.agg #[.int .i64 a1_0, .int .i64 a1_1, .int .i64 a1_2, .int .i64 a1_3]) := by rw [ha]; exact putSel_on (e := (2, 13, .agg #[.int .i64 a1_0, .int .i64 a1_1, .int .i64 a1_2, .int .i64 a1_3])) 2 rfl rfl (hon 2 (by kernel_rfl)) rfl
    replace ha := Aside0.mk ha
    have bK1 := Aside0.mk qK1
    have bK2 := Aside0.mk qK2
    have bK3 := Aside0.mk qK3
    have HB := Aside0.mk Q_HB
    refine goes_ Try.func149 (by kernel_rfl) rfl #[.agg #[.int .i64 a1_0, .int .i64 a1_1, .int .i64 a1_2, .int .i64 a1_3]] (by rfl) rfl rfl (by first | (simp only [List.map_toArray, List.map_cons, List.map_nil, Act.eval, Array.getD_eq_getD_getElem?, Option.getD_some, e13]; done) | (simp only [List.map_toArray, List.map_cons, List.map_nil, Act.eval, Array.getD_eq_getD_getElem?, Option.getD_some, e13]; rfl)) ?_
    with_reducible refine (impl_normal.calls a1_0 a1_1 a1_2 a1_3 t313 t314 t315 _ A5.out).mono ?_
    rintro e w22 ⟨rfl, hb⟩
    refine ⟨_, rfl, ?_⟩
    have n0_ := kb bK1 hb
    have n1_ := kb bK2 hb
    have n2_ := kb bK3 hb
    have n3_ := bt HB hb
    have zK4 := fun (h0_ : b 6 = true) (h1_ : b 9 = false) => (show w22.heap[g4]? = some (.cells #[.int .i64 0, .int .i64 0, .int .i64 0] 128 (0, 0)) from by first | exact (blk_below (g := g4) (o := .cells #[.int .i64 0, .int .i64 0, .int .i64 0] 128 (0, 0)) (by (with_reducible repeat (first | refine blk_drewN ?_ _ | refine blk_drew ?_ | refine blk_alloc ?_ _)); exact (qK4 h0_ h1_)) hb))
    have zK5 := fun (h0_ : b 7 = true) (h1_ : b 10 = false) => (show w22.heap[g5]? = some (.cells #[.int .i64 0, .int .i64 0, .int .i64 0] 128 (0, 0)) from by first | exact (blk_below (g := g5) (o := .cells #[.int .i64 0, .int .i64 0, .int .i64 0] 128 (0, 0)) (by (with_reducible repeat (first | refine blk_drewN ?_ _ | refine blk_drew ?_ | refine blk_alloc ?_ _)); exact (qK5 h0_ h1_)) hb))
    have zK6 := fun (h0_ : b 8 = true) (h1_ : b 11 = false) => (show w22.heap[g6]? = some (.cells #[.int .i64 0, .int .i64 0, .int .i64 0] 128 (0, 0)) from by first | exact (blk_below (g := g6) (o := .cells #[.int .i64 0, .int .i64 0, .int .i64 0] 128 (0, 0)) (by (with_reducible repeat (first | refine blk_drewN ?_ _ | refine blk_drew ?_ | refine blk_alloc ?_ _)); exact (qK6 h0_ h1_)) hb))
    clear bK1
    clear bK2
    clear bK3
    clear HB
    have bK1 := n0_
    have bK2 := n1_
    have bK3 := n2_
    have HB := n3_
    clear n0_ n1_ n2_ n3_
    (try clear hb)
    (try clear hb2)
    (try clear hk)
    (try clear hi)
    refine hK.out _ _ ⟨g4, g5, g6, m6_, m7_, m8_, (by rw [ha.out]; exact putSel_upk 3 hb_ rfl rfl rfl), (kbx bK1), (kbx bK2), (kbx bK3), (hbx HB), qN5_4, qN4_5, qN6_4, qN4_6, qN6_5, qN5_6, zK4, qW4, qE4, qN1_4, qN4_1, qN2_4, qN4_2, qN3_4, qN4_3, zK5, qW5, qE5, qN1_5, qN5_1, qN2_5, qN5_2, qN3_5, qN5_3, zK6, qW6, qE6, qN1_6, qN6_1, qN2_6, qN6_2, qN3_6, qN6_3, fun h0_ => absurd ((hoff 9 (by kernel_rfl)).symm.trans h0_) (by decide), fun h0_ => absurd ((hoff 10 (by kernel_rfl)).symm.trans h0_) (by decide), fun h0_ => absurd ((hoff 11 (by kernel_rfl)).symm.trans h0_) (by decide), Q_X6_, Q_X7_, Q_X8_⟩
   refine steps_cons ?_ ?_
   ·rintro b a w' ⟨g4, g5, g6, m6_, m7_, m8_, ha, qK1, qK2, qK3, Q_HB, qN5_4, qN4_5, qN6_4, qN4_6, qN6_5, qN5_6, qK4, qW4, qE4, qN1_4, qN4_1, qN2_4, qN4_2, qN3_4, qN4_3, qK5, qW5, qE5, qN1_5, qN5_1, qN2_5, qN5_2, qN3_5, qN5_3, qK6, qW6, qE6, qN1_6, qN6_1, qN2_6, qN6_2, qN3_6, qN6_3, qK4_e9, qK5_e10, qK6_e11, Q_X6_, Q_X7_, Q_X8_⟩ hb_ hon hoff
    refine ⟨_, rfl, fun K hK => ?_⟩
    have e5 : a.tmps[5]? = some (.pointer (some ⟨g3, 0, none⟩)) := by rw [ha]; exact (putSel_off rfl).trans rfl
    replace ha := Aside0.mk ha
    have bK1 := Aside0.mk qK1
    have bK2 := Aside0.mk qK2
    have bK3 := Aside0.mk qK3
    have HB := Aside0.mk Q_HB
    have hc0_ : w'.cell? ⟨g3, 0, none⟩ = some (.int .i64 a2_0) := (blk_cell bK3.out 0).trans rfl
    have hc1_ : w'.cell? ⟨g3, 1, none⟩ = some (.int .i64 a2_1) := (blk_cell bK3.out 1).trans rfl
    have hc2_ : w'.cell? ⟨g3, 2, none⟩ = some (.int .i64 a2_2) := (blk_cell bK3.out 2).trans rfl
    have hc3_ : w'.cell? ⟨g3, 3, none⟩ = some (.int .i64 a2_3) := (blk_cell bK3.out 3).trans rfl
    refine value_ (w1 := w') (v := .agg #[.int .i64 a2_0, .int .i64 a2_1, .int .i64 a2_2, .int .i64 a2_3]) (by rfl) rfl ?_ ?_
    ·go_simp
     (try simp only [i64_w])
     try rfl
    refine hK.out _ _ ⟨g4, g5, g6, m6_, m7_, m8_, (by rw [ha.out]; exact putSel_upk 4 hb_ rfl rfl rfl), qK1, qK2, qK3, Q_HB, qN5_4, qN4_5, qN6_4, qN4_6, qN6_5, qN5_6, qK4, qW4, qE4, qN1_4, qN4_1, qN2_4, qN4_2, qN3_4, qN4_3, qK5, qW5, qE5, qN1_5, qN5_1, qN2_5, qN5_2, qN3_5, qN5_3, qK6, qW6, qE6, qN1_6, qN6_1, qN2_6, qN6_2, qN3_6, qN6_3, fun h0_ => absurd ((hoff 9 (by kernel_rfl)).symm.trans h0_) (by decide), fun h0_ => absurd ((hoff 10 (by kernel_rfl)).symm.trans h0_) (by decide), fun h0_ => absurd ((hoff 11 (by kernel_rfl)).symm.trans h0_) (by decide), Q_X6_, Q_X7_, Q_X8_⟩
   refine steps_cons ?_ ?_
   ·rintro b a w' ⟨g4, g5, g6, m6_, m7_, m8_, ha, qK1, qK2, qK3, Q_HB, qN5_4, qN4_5, qN6_4, qN4_6, qN6_5, qN5_6, qK4, qW4, qE4, qN1_4, qN4_1, qN2_4, qN4_2, qN3_4, qN4_3, qK5, qW5, qE5, qN1_5, qN5_1, qN2_5, qN5_2, qN3_5, qN5_3, qK6, qW6, qE6, qN1_6, qN6_1, qN2_6, qN6_2, qN3_6, qN6_3, qK4_e9, qK5_e10, qK6_e11, Q_X6_, Q_X7_, Q_X8_⟩ hb_ hon hoff
    refine ⟨_, rfl, fun K hK => ?_⟩
    have e15 : a.tmps[15]? = some (.agg #[.int .i64 a2_0, .int .i64 a2_1, .int .i64 a2_2, .int .i64 a2_3]) := by rw [ha]; exact putSel_on (e := (4, 15, .agg #[.int .i64 a2_0, .int .i64 a2_1, .int .i64 a2_2, .int .i64 a2_3])) 4 rfl rfl (hon 4 (by kernel_rfl)) rfl
    replace ha := Aside0.mk ha
    have bK1 := Aside0.mk qK1
    have bK2 := Aside0.mk qK2
    have bK3 := Aside0.mk qK3
    have HB := Aside0.mk Q_HB
    refine goes_ Try.func149 (by kernel_rfl) rfl #[.agg #[.int .i64 a2_0, .int .i64 a2_1, .int .i64 a2_2, .int .i64 a2_3]] (by rfl) rfl rfl (by first | (simp only [List.map_toArray, List.map_cons, List.map_nil, Act.eval, Array.getD_eq_getD_getElem?, Option.getD_some, e15]; done) | (simp only [List.map_toArray, List.map_cons, List.map_nil, Act.eval, Array.getD_eq_getD_getElem?, Option.getD_some, e15]; rfl)) ?_
    with_reducible refine (impl_normal.calls a2_0 a2_1 a2_2 a2_3 t316 t317 t318 _ A6.out).mono ?_
    rintro e w23 ⟨rfl, hb⟩
    refine ⟨_, rfl, ?_⟩
    have n0_ := kb bK1 hb
    have n1_ := kb bK2 hb
    have n2_ := kb bK3 hb
    have n3_ := bt HB hb
    have zK4 := fun (h0_ : b 6 = true) (h1_ : b 9 = false) => (show w23.heap[g4]? = some (.cells #[.int .i64 0, .int .i64 0, .int .i64 0] 128 (0, 0)) from by first | exact (blk_below (g := g4) (o := .cells #[.int .i64 0, .int .i64 0, .int .i64 0] 128 (0, 0)) (by (with_reducible repeat (first | refine blk_drewN ?_ _ | refine blk_drew ?_ | refine blk_alloc ?_ _)); exact (qK4 h0_ h1_)) hb))
    have zK5 := fun (h0_ : b 7 = true) (h1_ : b 10 = false) => (show w23.heap[g5]? = some (.cells #[.int .i64 0, .int .i64 0, .int .i64 0] 128 (0, 0)) from by first | exact (blk_below (g := g5) (o := .cells #[.int .i64 0, .int .i64 0, .int .i64 0] 128 (0, 0)) (by (with_reducible repeat (first | refine blk_drewN ?_ _ | refine blk_drew ?_ | refine blk_alloc ?_ _)); exact (qK5 h0_ h1_)) hb))
    have zK6 := fun (h0_ : b 8 = true) (h1_ : b 11 = false) => (show w23.heap[g6]? = some (.cells #[.int .i64 0, .int .i64 0, .int .i64 0] 128 (0, 0)) from by first | exact (blk_below (g := g6) (o := .cells #[.int .i64 0, .int .i64 0, .int .i64 0] 128 (0, 0)) (by (with_reducible repeat (first | refine blk_drewN ?_ _ | refine blk_drew ?_ | refine blk_alloc ?_ _)); exact (qK6 h0_ h1_)) hb))
    clear bK1
    clear bK2
    clear bK3
    clear HB
    have bK1 := n0_
    have bK2 := n1_
    have bK3 := n2_
    have HB := n3_
    clear n0_ n1_ n2_ n3_
    (try clear hb)
    (try clear hb2)
    (try clear hk)
    (try clear hi)
    refine hK.out _ _ ⟨g4, g5, g6, m6_, m7_, m8_, (by rw [ha.out]; exact putSel_upk 5 hb_ rfl rfl rfl), (kbx bK1), (kbx bK2), (kbx bK3), (hbx HB), qN5_4, qN4_5, qN6_4, qN4_6, qN6_5, qN5_6, zK4, qW4, qE4, qN1_4, qN4_1, qN2_4, qN4_2, qN3_4, qN4_3, zK5, qW5, qE5, qN1_5, qN5_1, qN2_5, qN5_2, qN3_5, qN5_3, zK6, qW6, qE6, qN1_6, qN6_1, qN2_6, qN6_2, qN3_6, qN6_3, fun h0_ => absurd ((hoff 9 (by kernel_rfl)).symm.trans h0_) (by decide), fun h0_ => absurd ((hoff 10 (by kernel_rfl)).symm.trans h0_) (by decide), fun h0_ => absurd ((hoff 11 (by kernel_rfl)).symm.trans h0_) (by decide), Q_X6_, Q_X7_, Q_X8_⟩
   refine steps_cons ?_ ?_
   ·rintro b a w' ⟨g4, g5, g6, m6_, m7_, m8_, ha, qK1, qK2, qK3, Q_HB, qN5_4, qN4_5, qN6_4, qN4_6, qN6_5, qN5_6, qK4, qW4, qE4, qN1_4, qN4_1, qN2_4, qN4_2, qN3_4, qN4_3, qK5, qW5, qE5, qN1_5, qN5_1, qN2_5, qN5_2, qN3_5, qN5_3, qK6, qW6, qE6, qN1_6, qN6_1, qN2_6, qN6_2, qN3_6, qN6_3, qK4_e9, qK5_e10, qK6_e11, Q_X6_, Q_X7_, Q_X8_⟩ hb_ hon hoff
    refine ⟨_, rfl, fun K hK => ?_⟩
    replace ha := Aside0.mk ha
    have bK1 := Aside0.mk qK1
    have bK2 := Aside0.mk qK2
    have bK3 := Aside0.mk qK3
    have HB := Aside0.mk Q_HB
    refine box_step ?hg (N := 7) ?hd (cs := #[.int .i64 0, .int .i64 0, .int .i64 0]) (t := 128) ?hr ?_; (case hd => rfl); (case hg => rfl); (case hr => first | (go_simp; done) | (go_simp; rfl))
    intro g4 hg w20 hbox hb
    have n0_ := kb bK1 hb
    have n1_ := kb bK2 hb
    have n2_ := kb bK3 hb
    have n3_ := bt HB hb
    have n4_ := Aside0.mk (hbox)
    have n5_ := gx hg HB
    have n6_ := gx hg HB
    have n7_ := nl hg bK1
    have n8_ := nr hg bK1
    have n9_ := nl hg bK2
    have n10_ := nr hg bK2
    have n11_ := nl hg bK3
    have n12_ := nr hg bK3
    have zN5_4 := fun (h0_ : up b 6 6 = true) (h1_ : up b 6 7 = true) => (show g5 ≠ g4 from (by cases hq_ : b 10 with | false => exact ((by rw [hg]; exact Nat.ne_of_lt (blk_lt (g := g5) (by (with_reducible repeat (first | refine blk_drewN ?_ _ | refine blk_drew ?_ | refine blk_alloc ?_ _)); exact (qK5 h1_ hq_))) : g5 ≠ g4)) | true => exact ((by rw [hg]; exact Nat.ne_of_lt (blk_lt (g := g5) (by (with_reducible repeat (first | refine blk_drewN ?_ _ | refine blk_drew ?_ | refine blk_alloc ?_ _)); exact (qK5_e10 hq_))) : g5 ≠ g4))))
    have zN4_5 := fun (h0_ : up b 6 6 = true) (h1_ : up b 6 7 = true) => (show g4 ≠ g5 from (by cases hq_ : b 10 with | false => exact ((by rw [hg]; exact Nat.ne_of_gt (blk_lt (g := g5) (by (with_reducible repeat (first | refine blk_drewN ?_ _ | refine blk_drew ?_ | refine blk_alloc ?_ _)); exact (qK5 h1_ hq_))) : g4 ≠ g5)) | true => exact ((by rw [hg]; exact Nat.ne_of_gt (blk_lt (g := g5) (by (with_reducible repeat (first | refine blk_drewN ?_ _ | refine blk_drew ?_ | refine blk_alloc ?_ _)); exact (qK5_e10 hq_))) : g4 ≠ g5))))
    have zN6_4 := fun (h0_ : up b 6 6 = true) (h1_ : up b 6 8 = true) => (show g6 ≠ g4 from (by cases hq_ : b 11 with | false => exact ((by rw [hg]; exact Nat.ne_of_lt (blk_lt (g := g6) (by (with_reducible repeat (first | refine blk_drewN ?_ _ | refine blk_drew ?_ | refine blk_alloc ?_ _)); exact (qK6 h1_ hq_))) : g6 ≠ g4)) | true => exact ((by rw [hg]; exact Nat.ne_of_lt (blk_lt (g := g6) (by (with_reducible repeat (first | refine blk_drewN ?_ _ | refine blk_drew ?_ | refine blk_alloc ?_ _)); exact (qK6_e11 hq_))) : g6 ≠ g4))))
    have zN4_6 := fun (h0_ : up b 6 6 = true) (h1_ : up b 6 8 = true) => (show g4 ≠ g6 from (by cases hq_ : b 11 with | false => exact ((by rw [hg]; exact Nat.ne_of_gt (blk_lt (g := g6) (by (with_reducible repeat (first | refine blk_drewN ?_ _ | refine blk_drew ?_ | refine blk_alloc ?_ _)); exact (qK6 h1_ hq_))) : g4 ≠ g6)) | true => exact ((by rw [hg]; exact Nat.ne_of_gt (blk_lt (g := g6) (by (with_reducible repeat (first | refine blk_drewN ?_ _ | refine blk_drew ?_ | refine blk_alloc ?_ _)); exact (qK6_e11 hq_))) : g4 ≠ g6))))
    have zK5 := fun (h0_ : b 7 = true) (h1_ : b 10 = false) => (show w20.heap[g5]? = some (.cells #[.int .i64 0, .int .i64 0, .int .i64 0] 128 (0, 0)) from by first | exact (blk_below (g := g5) (o := .cells #[.int .i64 0, .int .i64 0, .int .i64 0] 128 (0, 0)) (by (with_reducible repeat (first | refine blk_drewN ?_ _ | refine blk_drew ?_ | refine blk_alloc ?_ _)); exact (qK5 h0_ h1_)) hb))
    have zK6 := fun (h0_ : b 8 = true) (h1_ : b 11 = false) => (show w20.heap[g6]? = some (.cells #[.int .i64 0, .int .i64 0, .int .i64 0] 128 (0, 0)) from by first | exact (blk_below (g := g6) (o := .cells #[.int .i64 0, .int .i64 0, .int .i64 0] 128 (0, 0)) (by (with_reducible repeat (first | refine blk_drewN ?_ _ | refine blk_drew ?_ | refine blk_alloc ?_ _)); exact (qK6 h0_ h1_)) hb))
    clear bK1
    clear bK2
    clear bK3
    clear HB
    have bK1 := n0_
    have bK2 := n1_
    have bK3 := n2_
    have HB := n3_
    have bK4 := n4_
    have bW4 := n5_
    have bE4 := n6_
    have bN1_4 := n7_
    have bN4_1 := n8_
    have bN2_4 := n9_
    have bN4_2 := n10_
    have bN3_4 := n11_
    have bN4_3 := n12_
    clear n0_ n1_ n2_ n3_ n4_ n5_ n6_ n7_ n8_ n9_ n10_ n11_ n12_
    clear hb hbox hg
    refine hK.out _ _ ⟨g4, g5, g6, (.pointer (some ⟨g4, 0, none⟩)), m7_, m8_, (by rw [ha.out]; exact putSel_upk 6 hb_ rfl rfl rfl), (kbx bK1), (kbx bK2), (kbx bK3), (hbx HB), zN5_4, zN4_5, zN6_4, zN4_6, qN6_5, qN5_6, fun _ _ => (kbx bK4), fun _ => bW4.out, fun _ => bE4.out, fun _ => bN1_4.out, fun _ => bN4_1.out, fun _ => bN2_4.out, fun _ => bN4_2.out, fun _ => bN3_4.out, fun _ => bN4_3.out, zK5, qW5, qE5, qN1_5, qN5_1, qN2_5, qN5_2, qN3_5, qN5_3, zK6, qW6, qE6, qN1_6, qN6_1, qN2_6, qN6_2, qN3_6, qN6_3, fun h0_ => absurd ((hoff 9 (by kernel_rfl)).symm.trans h0_) (by decide), fun h0_ => absurd ((hoff 10 (by kernel_rfl)).symm.trans h0_) (by decide), fun h0_ => absurd ((hoff 11 (by kernel_rfl)).symm.trans h0_) (by decide), fun _ => rfl, Q_X7_, Q_X8_⟩
   refine steps_cons ?_ ?_
   ·rintro b a w' ⟨g4, g5, g6, m6_, m7_, m8_, ha, qK1, qK2, qK3, Q_HB, qN5_4, qN4_5, qN6_4, qN4_6, qN6_5, qN5_6, qK4, qW4, qE4, qN1_4, qN4_1, qN2_4, qN4_2, qN3_4, qN4_3, qK5, qW5, qE5, qN1_5, qN5_1, qN2_5, qN5_2, qN3_5, qN5_3, qK6, qW6, qE6, qN1_6, qN6_1, qN2_6, qN6_2, qN3_6, qN6_3, qK4_e9, qK5_e10, qK6_e11, Q_X6_, Q_X7_, Q_X8_⟩ hb_ hon hoff
    refine ⟨_, rfl, fun K hK => ?_⟩
    replace ha := Aside0.mk ha
    have bK1 := Aside0.mk qK1
    have bK2 := Aside0.mk qK2
    have bK3 := Aside0.mk qK3
    have HB := Aside0.mk Q_HB
    refine box_step ?hg (N := 8) ?hd (cs := #[.int .i64 0, .int .i64 0, .int .i64 0]) (t := 128) ?hr ?_; (case hd => rfl); (case hg => rfl); (case hr => first | (go_simp; done) | (go_simp; rfl))
    intro g5 hg w20 hbox hb
    have n0_ := kb bK1 hb
    have n1_ := kb bK2 hb
    have n2_ := kb bK3 hb
    have n3_ := bt HB hb
    have n4_ := Aside0.mk (hbox)
    have n5_ := gx hg HB
    have n6_ := gx hg HB
    have n7_ := nl hg bK1
    have n8_ := nr hg bK1
    have n9_ := nl hg bK2
    have n10_ := nr hg bK2
    have n11_ := nl hg bK3
    have n12_ := nr hg bK3
    have zN5_4 := fun (h0_ : up b 7 6 = true) (h1_ : up b 7 7 = true) => (show g5 ≠ g4 from (by cases hq_ : b 9 with | false => exact ((by rw [hg]; exact Nat.ne_of_gt (blk_lt (g := g4) (by (with_reducible repeat (first | refine blk_drewN ?_ _ | refine blk_drew ?_ | refine blk_alloc ?_ _)); exact (qK4 h0_ hq_))) : g5 ≠ g4)) | true => exact ((by rw [hg]; exact Nat.ne_of_gt (blk_lt (g := g4) (by (with_reducible repeat (first | refine blk_drewN ?_ _ | refine blk_drew ?_ | refine blk_alloc ?_ _)); exact (qK4_e9 hq_))) : g5 ≠ g4))))
    have zN4_5 := fun (h0_ : up b 7 6 = true) (h1_ : up b 7 7 = true) => (show g4 ≠ g5 from (by cases hq_ : b 9 with | false => exact ((by rw [hg]; exact Nat.ne_of_lt (blk_lt (g := g4) (by (with_reducible repeat (first | refine blk_drewN ?_ _ | refine blk_drew ?_ | refine blk_alloc ?_ _)); exact (qK4 h0_ hq_))) : g4 ≠ g5)) | true => exact ((by rw [hg]; exact Nat.ne_of_lt (blk_lt (g := g4) (by (with_reducible repeat (first | refine blk_drewN ?_ _ | refine blk_drew ?_ | refine blk_alloc ?_ _)); exact (qK4_e9 hq_))) : g4 ≠ g5))))
    have zN6_5 := fun (h0_ : up b 7 7 = true) (h1_ : up b 7 8 = true) => (show g6 ≠ g5 from (by cases hq_ : b 11 with | false => exact ((by rw [hg]; exact Nat.ne_of_lt (blk_lt (g := g6) (by (with_reducible repeat (first | refine blk_drewN ?_ _ | refine blk_drew ?_ | refine blk_alloc ?_ _)); exact (qK6 h1_ hq_))) : g6 ≠ g5)) | true => exact ((by rw [hg]; exact Nat.ne_of_lt (blk_lt (g := g6) (by (with_reducible repeat (first | refine blk_drewN ?_ _ | refine blk_drew ?_ | refine blk_alloc ?_ _)); exact (qK6_e11 hq_))) : g6 ≠ g5))))
    have zN5_6 := fun (h0_ : up b 7 7 = true) (h1_ : up b 7 8 = true) => (show g5 ≠ g6 from (by cases hq_ : b 11 with | false => exact ((by rw [hg]; exact Nat.ne_of_gt (blk_lt (g := g6) (by (with_reducible repeat (first | refine blk_drewN ?_ _ | refine blk_drew ?_ | refine blk_alloc ?_ _)); exact (qK6 h1_ hq_))) : g5 ≠ g6)) | true => exact ((by rw [hg]; exact Nat.ne_of_gt (blk_lt (g := g6) (by (with_reducible repeat (first | refine blk_drewN ?_ _ | refine blk_drew ?_ | refine blk_alloc ?_ _)); exact (qK6_e11 hq_))) : g5 ≠ g6))))
    have zK4 := fun (h0_ : b 6 = true) (h1_ : b 9 = false) => (show w20.heap[g4]? = some (.cells #[.int .i64 0, .int .i64 0, .int .i64 0] 128 (0, 0)) from by first | exact (blk_below (g := g4) (o := .cells #[.int .i64 0, .int .i64 0, .int .i64 0] 128 (0, 0)) (by (with_reducible repeat (first | refine blk_drewN ?_ _ | refine blk_drew ?_ | refine blk_alloc ?_ _)); exact (qK4 h0_ h1_)) hb))
    have zK6 := fun (h0_ : b 8 = true) (h1_ : b 11 = false) => (show w20.heap[g6]? = some (.cells #[.int .i64 0, .int .i64 0, .int .i64 0] 128 (0, 0)) from by first | exact (blk_below (g := g6) (o := .cells #[.int .i64 0, .int .i64 0, .int .i64 0] 128 (0, 0)) (by (with_reducible repeat (first | refine blk_drewN ?_ _ | refine blk_drew ?_ | refine blk_alloc ?_ _)); exact (qK6 h0_ h1_)) hb))
    clear bK1
    clear bK2
    clear bK3
    clear HB
    have bK1 := n0_
    have bK2 := n1_
    have bK3 := n2_
    have HB := n3_
    have bK5 := n4_
    have bW5 := n5_
    have bE5 := n6_
    have bN1_5 := n7_
    have bN5_1 := n8_
    have bN2_5 := n9_
    have bN5_2 := n10_
    have bN3_5 := n11_
    have bN5_3 := n12_
    clear n0_ n1_ n2_ n3_ n4_ n5_ n6_ n7_ n8_ n9_ n10_ n11_ n12_
    clear hb hbox hg
    refine hK.out _ _ ⟨g4, g5, g6, m6_, (.pointer (some ⟨g5, 0, none⟩)), m8_, (by rw [ha.out]; exact putSel_upk 7 hb_ rfl rfl rfl), (kbx bK1), (kbx bK2), (kbx bK3), (hbx HB), zN5_4, zN4_5, qN6_4, qN4_6, zN6_5, zN5_6, zK4, qW4, qE4, qN1_4, qN4_1, qN2_4, qN4_2, qN3_4, qN4_3, fun _ _ => (kbx bK5), fun _ => bW5.out, fun _ => bE5.out, fun _ => bN1_5.out, fun _ => bN5_1.out, fun _ => bN2_5.out, fun _ => bN5_2.out, fun _ => bN3_5.out, fun _ => bN5_3.out, zK6, qW6, qE6, qN1_6, qN6_1, qN2_6, qN6_2, qN3_6, qN6_3, fun h0_ => absurd ((hoff 9 (by kernel_rfl)).symm.trans h0_) (by decide), fun h0_ => absurd ((hoff 10 (by kernel_rfl)).symm.trans h0_) (by decide), fun h0_ => absurd ((hoff 11 (by kernel_rfl)).symm.trans h0_) (by decide), Q_X6_, fun _ => rfl, Q_X8_⟩
   refine steps_cons ?_ ?_
   ·rintro b a w' ⟨g4, g5, g6, m6_, m7_, m8_, ha, qK1, qK2, qK3, Q_HB, qN5_4, qN4_5, qN6_4, qN4_6, qN6_5, qN5_6, qK4, qW4, qE4, qN1_4, qN4_1, qN2_4, qN4_2, qN3_4, qN4_3, qK5, qW5, qE5, qN1_5, qN5_1, qN2_5, qN5_2, qN3_5, qN5_3, qK6, qW6, qE6, qN1_6, qN6_1, qN2_6, qN6_2, qN3_6, qN6_3, qK4_e9, qK5_e10, qK6_e11, Q_X6_, Q_X7_, Q_X8_⟩ hb_ hon hoff
    refine ⟨_, rfl, fun K hK => ?_⟩
    replace ha := Aside0.mk ha
    have bK1 := Aside0.mk qK1
    have bK2 := Aside0.mk qK2
    have bK3 := Aside0.mk qK3
    have HB := Aside0.mk Q_HB
    refine box_step ?hg (N := 9) ?hd (cs := #[.int .i64 0, .int .i64 0, .int .i64 0]) (t := 128) ?hr ?_; (case hd => rfl); (case hg => rfl); (case hr => first | (go_simp; done) | (go_simp; rfl))
    intro g6 hg w20 hbox hb
    have n0_ := kb bK1 hb
    have n1_ := kb bK2 hb
    have n2_ := kb bK3 hb
    have n3_ := bt HB hb
    have n4_ := Aside0.mk (hbox)
    have n5_ := gx hg HB
    have n6_ := gx hg HB
    have n7_ := nl hg bK1
    have n8_ := nr hg bK1
    have n9_ := nl hg bK2
    have n10_ := nr hg bK2
    have n11_ := nl hg bK3
    have n12_ := nr hg bK3
    have zN6_4 := fun (h0_ : up b 8 6 = true) (h1_ : up b 8 8 = true) => (show g6 ≠ g4 from (by cases hq_ : b 9 with | false => exact ((by rw [hg]; exact Nat.ne_of_gt (blk_lt (g := g4) (by (with_reducible repeat (first | refine blk_drewN ?_ _ | refine blk_drew ?_ | refine blk_alloc ?_ _)); exact (qK4 h0_ hq_))) : g6 ≠ g4)) | true => exact ((by rw [hg]; exact Nat.ne_of_gt (blk_lt (g := g4) (by (with_reducible repeat (first | refine blk_drewN ?_ _ | refine blk_drew ?_ | refine blk_alloc ?_ _)); exact (qK4_e9 hq_))) : g6 ≠ g4))))
    have zN4_6 := fun (h0_ : up b 8 6 = true) (h1_ : up b 8 8 = true) => (show g4 ≠ g6 from (by cases hq_ : b 9 with | false => exact ((by rw [hg]; exact Nat.ne_of_lt (blk_lt (g := g4) (by (with_reducible repeat (first | refine blk_drewN ?_ _ | refine blk_drew ?_ | refine blk_alloc ?_ _)); exact (qK4 h0_ hq_))) : g4 ≠ g6)) | true => exact ((by rw [hg]; exact Nat.ne_of_lt (blk_lt (g := g4) (by (with_reducible repeat (first | refine blk_drewN ?_ _ | refine blk_drew ?_ | refine blk_alloc ?_ _)); exact (qK4_e9 hq_))) : g4 ≠ g6))))
    have zN6_5 := fun (h0_ : up b 8 7 = true) (h1_ : up b 8 8 = true) => (show g6 ≠ g5 from (by cases hq_ : b 10 with | false => exact ((by rw [hg]; exact Nat.ne_of_gt (blk_lt (g := g5) (by (with_reducible repeat (first | refine blk_drewN ?_ _ | refine blk_drew ?_ | refine blk_alloc ?_ _)); exact (qK5 h0_ hq_))) : g6 ≠ g5)) | true => exact ((by rw [hg]; exact Nat.ne_of_gt (blk_lt (g := g5) (by (with_reducible repeat (first | refine blk_drewN ?_ _ | refine blk_drew ?_ | refine blk_alloc ?_ _)); exact (qK5_e10 hq_))) : g6 ≠ g5))))
    have zN5_6 := fun (h0_ : up b 8 7 = true) (h1_ : up b 8 8 = true) => (show g5 ≠ g6 from (by cases hq_ : b 10 with | false => exact ((by rw [hg]; exact Nat.ne_of_lt (blk_lt (g := g5) (by (with_reducible repeat (first | refine blk_drewN ?_ _ | refine blk_drew ?_ | refine blk_alloc ?_ _)); exact (qK5 h0_ hq_))) : g5 ≠ g6)) | true => exact ((by rw [hg]; exact Nat.ne_of_lt (blk_lt (g := g5) (by (with_reducible repeat (first | refine blk_drewN ?_ _ | refine blk_drew ?_ | refine blk_alloc ?_ _)); exact (qK5_e10 hq_))) : g5 ≠ g6))))
    have zK4 := fun (h0_ : b 6 = true) (h1_ : b 9 = false) => (show w20.heap[g4]? = some (.cells #[.int .i64 0, .int .i64 0, .int .i64 0] 128 (0, 0)) from by first | exact (blk_below (g := g4) (o := .cells #[.int .i64 0, .int .i64 0, .int .i64 0] 128 (0, 0)) (by (with_reducible repeat (first | refine blk_drewN ?_ _ | refine blk_drew ?_ | refine blk_alloc ?_ _)); exact (qK4 h0_ h1_)) hb))
    have zK5 := fun (h0_ : b 7 = true) (h1_ : b 10 = false) => (show w20.heap[g5]? = some (.cells #[.int .i64 0, .int .i64 0, .int .i64 0] 128 (0, 0)) from by first | exact (blk_below (g := g5) (o := .cells #[.int .i64 0, .int .i64 0, .int .i64 0] 128 (0, 0)) (by (with_reducible repeat (first | refine blk_drewN ?_ _ | refine blk_drew ?_ | refine blk_alloc ?_ _)); exact (qK5 h0_ h1_)) hb))
    clear bK1
    clear bK2
    clear bK3
    clear HB
    have bK1 := n0_
    have bK2 := n1_
    have bK3 := n2_
    have HB := n3_
    have bK6 := n4_
    have bW6 := n5_
    have bE6 := n6_
    have bN1_6 := n7_
    have bN6_1 := n8_
    have bN2_6 := n9_
    have bN6_2 := n10_
    have bN3_6 := n11_
    have bN6_3 := n12_
    clear n0_ n1_ n2_ n3_ n4_ n5_ n6_ n7_ n8_ n9_ n10_ n11_ n12_
    clear hb hbox hg
    refine hK.out _ _ ⟨g4, g5, g6, m6_, m7_, (.pointer (some ⟨g6, 0, none⟩)), (by rw [ha.out]; exact putSel_upk 8 hb_ rfl rfl rfl), (kbx bK1), (kbx bK2), (kbx bK3), (hbx HB), qN5_4, qN4_5, zN6_4, zN4_6, zN6_5, zN5_6, zK4, qW4, qE4, qN1_4, qN4_1, qN2_4, qN4_2, qN3_4, qN4_3, zK5, qW5, qE5, qN1_5, qN5_1, qN2_5, qN5_2, qN3_5, qN5_3, fun _ _ => (kbx bK6), fun _ => bW6.out, fun _ => bE6.out, fun _ => bN1_6.out, fun _ => bN6_1.out, fun _ => bN2_6.out, fun _ => bN6_2.out, fun _ => bN3_6.out, fun _ => bN6_3.out, fun h0_ => absurd ((hoff 9 (by kernel_rfl)).symm.trans h0_) (by decide), fun h0_ => absurd ((hoff 10 (by kernel_rfl)).symm.trans h0_) (by decide), fun h0_ => absurd ((hoff 11 (by kernel_rfl)).symm.trans h0_) (by decide), Q_X6_, Q_X7_, fun _ => rfl⟩
   refine steps_cons ?_ ?_
   ·rintro b a w' ⟨g4, g5, g6, m6_, m7_, m8_, ha, qK1, qK2, qK3, Q_HB, qN5_4, qN4_5, qN6_4, qN4_6, qN6_5, qN5_6, qK4, qW4, qE4, qN1_4, qN4_1, qN2_4, qN4_2, qN3_4, qN4_3, qK5, qW5, qE5, qN1_5, qN5_1, qN2_5, qN5_2, qN3_5, qN5_3, qK6, qW6, qE6, qN1_6, qN6_1, qN2_6, qN6_2, qN3_6, qN6_3, qK4_e9, qK5_e10, qK6_e11, Q_X6_, Q_X7_, Q_X8_⟩ hb_ hon hoff
    refine ⟨_, rfl, fun K hK => ?_⟩
    have e7 : a.tmps[7]? = some (m6_) := by rw [ha]; exact putSel_on (e := (6, 7, m6_)) 6 rfl rfl (hon 6 (by kernel_rfl)) rfl
    rw [Q_X6_ (hon 6 (by kernel_rfl))] at e7
    have e12 : a.tmps[12]? = some (.agg #[.int .i64 t310, .int .i64 t311, .int .i64 t312]) := by rw [ha]; exact putSel_on (e := (1, 12, .agg #[.int .i64 t310, .int .i64 t311, .int .i64 t312])) 1 rfl rfl (hon 1 (by kernel_rfl)) rfl
    replace ha := Aside0.mk ha
    have bK1 := Aside0.mk qK1
    have bK2 := Aside0.mk qK2
    have bK3 := Aside0.mk qK3
    have HB := Aside0.mk Q_HB
    have bN5_4 := Aside0.mk (qN5_4 (hon 6 (by kernel_rfl)) (hon 7 (by kernel_rfl)))
    have bN4_5 := Aside0.mk (qN4_5 (hon 6 (by kernel_rfl)) (hon 7 (by kernel_rfl)))
    have bN6_4 := Aside0.mk (qN6_4 (hon 6 (by kernel_rfl)) (hon 8 (by kernel_rfl)))
    have bN4_6 := Aside0.mk (qN4_6 (hon 6 (by kernel_rfl)) (hon 8 (by kernel_rfl)))
    have bN6_5 := Aside0.mk (qN6_5 (hon 7 (by kernel_rfl)) (hon 8 (by kernel_rfl)))
    have bN5_6 := Aside0.mk (qN5_6 (hon 7 (by kernel_rfl)) (hon 8 (by kernel_rfl)))
    have bK4 := Aside0.mk (qK4 (hon 6 (by kernel_rfl)) hb_)
    have bW4 := Aside0.mk (qW4 (hon 6 (by kernel_rfl)))
    have bE4 := Aside0.mk (qE4 (hon 6 (by kernel_rfl)))
    have bN1_4 := Aside0.mk (qN1_4 (hon 6 (by kernel_rfl)))
    have bN4_1 := Aside0.mk (qN4_1 (hon 6 (by kernel_rfl)))
    have bN2_4 := Aside0.mk (qN2_4 (hon 6 (by kernel_rfl)))
    have bN4_2 := Aside0.mk (qN4_2 (hon 6 (by kernel_rfl)))
    have bN3_4 := Aside0.mk (qN3_4 (hon 6 (by kernel_rfl)))
    have bN4_3 := Aside0.mk (qN4_3 (hon 6 (by kernel_rfl)))
    have bK5 := Aside0.mk (qK5 (hon 7 (by kernel_rfl)) (hoff 10 (by kernel_rfl)))
    have bW5 := Aside0.mk (qW5 (hon 7 (by kernel_rfl)))
    have bE5 := Aside0.mk (qE5 (hon 7 (by kernel_rfl)))
    have bN1_5 := Aside0.mk (qN1_5 (hon 7 (by kernel_rfl)))
    have bN5_1 := Aside0.mk (qN5_1 (hon 7 (by kernel_rfl)))
    have bN2_5 := Aside0.mk (qN2_5 (hon 7 (by kernel_rfl)))
    have bN5_2 := Aside0.mk (qN5_2 (hon 7 (by kernel_rfl)))
    have bN3_5 := Aside0.mk (qN3_5 (hon 7 (by kernel_rfl)))
    have bN5_3 := Aside0.mk (qN5_3 (hon 7 (by kernel_rfl)))
    have bK6 := Aside0.mk (qK6 (hon 8 (by kernel_rfl)) (hoff 11 (by kernel_rfl)))
    have bW6 := Aside0.mk (qW6 (hon 8 (by kernel_rfl)))
    have bE6 := Aside0.mk (qE6 (hon 8 (by kernel_rfl)))
    have bN1_6 := Aside0.mk (qN1_6 (hon 8 (by kernel_rfl)))
    have bN6_1 := Aside0.mk (qN6_1 (hon 8 (by kernel_rfl)))
    have bN2_6 := Aside0.mk (qN2_6 (hon 8 (by kernel_rfl)))
    have bN6_2 := Aside0.mk (qN6_2 (hon 8 (by kernel_rfl)))
    have bN3_6 := Aside0.mk (qN3_6 (hon 8 (by kernel_rfl)))
    have bN6_3 := Aside0.mk (qN6_3 (hon 8 (by kernel_rfl)))
    have hs27 : w'.cell? ⟨g4, 0, none⟩ = some (.int .i64 0) := (blk_cell bK4.out 0).trans rfl
    have hfs27 := blk_frozen bK4.out 0
    have hns27_0 := bN1_4.out
    have hns27_1 := bN2_4.out
    have hns27_2 := bN3_4.out
    have hns27_4 := bN5_4.out
    have hns27_5 := bN6_4.out
    have hms27_0 := bN4_1.out
    have hms27_1 := bN4_2.out
    have hms27_2 := bN4_3.out
    have hms27_4 := bN4_5.out
    have hms27_5 := bN4_6.out
    have hs28 : w'.cell? ⟨g4, 1, none⟩ = some (.int .i64 0) := (blk_cell bK4.out 1).trans rfl
    have hfs28 := blk_frozen bK4.out 1
    have hns28_0 := bN1_4.out
    have hns28_1 := bN2_4.out
    have hns28_2 := bN3_4.out
    have hns28_4 := bN5_4.out
    have hns28_5 := bN6_4.out
    have hms28_0 := bN4_1.out
    have hms28_1 := bN4_2.out
    have hms28_2 := bN4_3.out
    have hms28_4 := bN4_5.out
    have hms28_5 := bN4_6.out
    have hs29 : w'.cell? ⟨g4, 2, none⟩ = some (.int .i64 0) := (blk_cell bK4.out 2).trans rfl
    have hfs29 := blk_frozen bK4.out 2
    have hns29_0 := bN1_4.out
    have hns29_1 := bN2_4.out
    have hns29_2 := bN3_4.out
    have hns29_4 := bN5_4.out
    have hns29_5 := bN6_4.out
    have hms29_0 := bN4_1.out
    have hms29_1 := bN4_2.out
    have hms29_2 := bN4_3.out
    have hms29_4 := bN4_5.out
    have hms29_5 := bN4_6.out
    refine skip_ (w1 := ?_) (by rfl) rfl ?_ ?_
    rotate_left
    ·go_simp
     rfl
    refine hK.out _ _ ⟨g4, g5, g6, m6_, m7_, m8_, (by rw [ha.out]; exact putSel_none (v := undef) rfl), (kfx bK1), (kfx bK2), (kfx bK3), (hbx HB), fun _ _ => bN5_4.out, fun _ _ => bN4_5.out, fun _ _ => bN6_4.out, fun _ _ => bN4_6.out, fun _ _ => bN6_5.out, fun _ _ => bN5_6.out, fun _ h1_ => absurd ((up_self b 9).symm.trans h1_) (by decide), fun _ => bW4.out, fun _ => bE4.out, fun _ => bN1_4.out, fun _ => bN4_1.out, fun _ => bN2_4.out, fun _ => bN4_2.out, fun _ => bN3_4.out, fun _ => bN4_3.out, fun _ _ => (kfx bK5), fun _ => bW5.out, fun _ => bE5.out, fun _ => bN1_5.out, fun _ => bN5_1.out, fun _ => bN2_5.out, fun _ => bN5_2.out, fun _ => bN3_5.out, fun _ => bN5_3.out, fun _ _ => (kfx bK6), fun _ => bW6.out, fun _ => bE6.out, fun _ => bN1_6.out, fun _ => bN6_1.out, fun _ => bN2_6.out, fun _ => bN6_2.out, fun _ => bN3_6.out, fun _ => bN6_3.out, fun _ => (by (with_reducible repeat (first | refine blk_drewN ?_ _ | refine blk_drew ?_ | refine blk_alloc ?_ _)); refine blk_put (cs := #[.int .i64 t310, .int .i64 t311, .int .i64 0]) ?_ 2 _ rfl; (with_reducible repeat (first | refine blk_drewN ?_ _ | refine blk_drew ?_ | refine blk_alloc ?_ _)); refine blk_put (cs := #[.int .i64 t310, .int .i64 0, .int .i64 0]) ?_ 1 _ rfl; (with_reducible repeat (first | refine blk_drewN ?_ _ | refine blk_drew ?_ | refine blk_alloc ?_ _)); refine blk_put (cs := #[.int .i64 0, .int .i64 0, .int .i64 0]) ?_ 0 _ rfl; (with_reducible repeat (first | refine blk_drewN ?_ _ | refine blk_drew ?_ | refine blk_alloc ?_ _)); exact bK4.out), fun h0_ => absurd ((hoff 10 (by kernel_rfl)).symm.trans h0_) (by decide), fun h0_ => absurd ((hoff 11 (by kernel_rfl)).symm.trans h0_) (by decide), Q_X6_, Q_X7_, Q_X8_⟩
   refine steps_cons ?_ ?_
   ·rintro b a w' ⟨g4, g5, g6, m6_, m7_, m8_, ha, qK1, qK2, qK3, Q_HB, qN5_4, qN4_5, qN6_4, qN4_6, qN6_5, qN5_6, qK4, qW4, qE4, qN1_4, qN4_1, qN2_4, qN4_2, qN3_4, qN4_3, qK5, qW5, qE5, qN1_5, qN5_1, qN2_5, qN5_2, qN3_5, qN5_3, qK6, qW6, qE6, qN1_6, qN6_1, qN2_6, qN6_2, qN3_6, qN6_3, qK4_e9, qK5_e10, qK6_e11, Q_X6_, Q_X7_, Q_X8_⟩ hb_ hon hoff
    refine ⟨_, rfl, fun K hK => ?_⟩
    have e8 : a.tmps[8]? = some (m7_) := by rw [ha]; exact putSel_on (e := (7, 8, m7_)) 7 rfl rfl (hon 7 (by kernel_rfl)) rfl
    rw [Q_X7_ (hon 7 (by kernel_rfl))] at e8
    have e14 : a.tmps[14]? = some (.agg #[.int .i64 t313, .int .i64 t314, .int .i64 t315]) := by rw [ha]; exact putSel_on (e := (3, 14, .agg #[.int .i64 t313, .int .i64 t314, .int .i64 t315])) 3 rfl rfl (hon 3 (by kernel_rfl)) rfl
    replace ha := Aside0.mk ha
    have bK1 := Aside0.mk qK1
    have bK2 := Aside0.mk qK2
    have bK3 := Aside0.mk qK3
    have HB := Aside0.mk Q_HB
    have bN5_4 := Aside0.mk (qN5_4 (hon 6 (by kernel_rfl)) (hon 7 (by kernel_rfl)))
    have bN4_5 := Aside0.mk (qN4_5 (hon 6 (by kernel_rfl)) (hon 7 (by kernel_rfl)))
    have bN6_4 := Aside0.mk (qN6_4 (hon 6 (by kernel_rfl)) (hon 8 (by kernel_rfl)))
    have bN4_6 := Aside0.mk (qN4_6 (hon 6 (by kernel_rfl)) (hon 8 (by kernel_rfl)))
    have bN6_5 := Aside0.mk (qN6_5 (hon 7 (by kernel_rfl)) (hon 8 (by kernel_rfl)))
    have bN5_6 := Aside0.mk (qN5_6 (hon 7 (by kernel_rfl)) (hon 8 (by kernel_rfl)))
    have bW4 := Aside0.mk (qW4 (hon 6 (by kernel_rfl)))
    have bE4 := Aside0.mk (qE4 (hon 6 (by kernel_rfl)))
    have bN1_4 := Aside0.mk (qN1_4 (hon 6 (by kernel_rfl)))
    have bN4_1 := Aside0.mk (qN4_1 (hon 6 (by kernel_rfl)))
    have bN2_4 := Aside0.mk (qN2_4 (hon 6 (by kernel_rfl)))
    have bN4_2 := Aside0.mk (qN4_2 (hon 6 (by kernel_rfl)))
    have bN3_4 := Aside0.mk (qN3_4 (hon 6 (by kernel_rfl)))
    have bN4_3 := Aside0.mk (qN4_3 (hon 6 (by kernel_rfl)))
    have bK5 := Aside0.mk (qK5 (hon 7 (by kernel_rfl)) hb_)
    have bW5 := Aside0.mk (qW5 (hon 7 (by kernel_rfl)))
    have bE5 := Aside0.mk (qE5 (hon 7 (by kernel_rfl)))
    have bN1_5 := Aside0.mk (qN1_5 (hon 7 (by kernel_rfl)))
    have bN5_1 := Aside0.mk (qN5_1 (hon 7 (by kernel_rfl)))
    have bN2_5 := Aside0.mk (qN2_5 (hon 7 (by kernel_rfl)))
    have bN5_2 := Aside0.mk (qN5_2 (hon 7 (by kernel_rfl)))
    have bN3_5 := Aside0.mk (qN3_5 (hon 7 (by kernel_rfl)))
    have bN5_3 := Aside0.mk (qN5_3 (hon 7 (by kernel_rfl)))
    have bK6 := Aside0.mk (qK6 (hon 8 (by kernel_rfl)) (hoff 11 (by kernel_rfl)))
    have bW6 := Aside0.mk (qW6 (hon 8 (by kernel_rfl)))
    have bE6 := Aside0.mk (qE6 (hon 8 (by kernel_rfl)))
    have bN1_6 := Aside0.mk (qN1_6 (hon 8 (by kernel_rfl)))
    have bN6_1 := Aside0.mk (qN6_1 (hon 8 (by kernel_rfl)))
    have bN2_6 := Aside0.mk (qN2_6 (hon 8 (by kernel_rfl)))
    have bN6_2 := Aside0.mk (qN6_2 (hon 8 (by kernel_rfl)))
    have bN3_6 := Aside0.mk (qN3_6 (hon 8 (by kernel_rfl)))
    have bN6_3 := Aside0.mk (qN6_3 (hon 8 (by kernel_rfl)))
    have bK4 := Aside0.mk (qK4_e9 (hon 9 (by kernel_rfl)))
    have hs30 : w'.cell? ⟨g5, 0, none⟩ = some (.int .i64 0) := (blk_cell bK5.out 0).trans rfl
    have hfs30 := blk_frozen bK5.out 0
    have hns30_0 := bN1_5.out
    have hns30_1 := bN2_5.out
    have hns30_2 := bN3_5.out
    have hns30_3 := bN4_5.out
    have hns30_5 := bN6_5.out
    have hms30_0 := bN5_1.out
    have hms30_1 := bN5_2.out
    have hms30_2 := bN5_3.out
    have hms30_3 := bN5_4.out
    have hms30_5 := bN5_6.out
    have hs31 : w'.cell? ⟨g5, 1, none⟩ = some (.int .i64 0) := (blk_cell bK5.out 1).trans rfl
    have hfs31 := blk_frozen bK5.out 1
    have hns31_0 := bN1_5.out
    have hns31_1 := bN2_5.out
    have hns31_2 := bN3_5.out
    have hns31_3 := bN4_5.out
    have hns31_5 := bN6_5.out
    have hms31_0 := bN5_1.out
    have hms31_1 := bN5_2.out
    have hms31_2 := bN5_3.out
    have hms31_3 := bN5_4.out
    have hms31_5 := bN5_6.out
    have hs32 : w'.cell? ⟨g5, 2, none⟩ = some (.int .i64 0) := (blk_cell bK5.out 2).trans rfl
    have hfs32 := blk_frozen bK5.out 2
    have hns32_0 := bN1_5.out
    have hns32_1 := bN2_5.out
    have hns32_2 := bN3_5.out
    have hns32_3 := bN4_5.out
    have hns32_5 := bN6_5.out
    have hms32_0 := bN5_1.out
    have hms32_1 := bN5_2.out
    have hms32_2 := bN5_3.out
    have hms32_3 := bN5_4.out
    have hms32_5 := bN5_6.out
    refine skip_ (w1 := ?_) (by rfl) rfl ?_ ?_
    rotate_left
    ·go_simp
     rfl
    refine hK.out _ _ ⟨g4, g5, g6, m6_, m7_, m8_, (by rw [ha.out]; exact putSel_none (v := undef) rfl), (kfx bK1), (kfx bK2), (kfx bK3), (hbx HB), fun _ _ => bN5_4.out, fun _ _ => bN4_5.out, fun _ _ => bN6_4.out, fun _ _ => bN4_6.out, fun _ _ => bN6_5.out, fun _ _ => bN5_6.out, fun _ h1_ => absurd ((hon 9 (by kernel_rfl)).symm.trans h1_) (by decide), fun _ => bW4.out, fun _ => bE4.out, fun _ => bN1_4.out, fun _ => bN4_1.out, fun _ => bN2_4.out, fun _ => bN4_2.out, fun _ => bN3_4.out, fun _ => bN4_3.out, fun _ h1_ => absurd ((up_self b 10).symm.trans h1_) (by decide), fun _ => bW5.out, fun _ => bE5.out, fun _ => bN1_5.out, fun _ => bN5_1.out, fun _ => bN2_5.out, fun _ => bN5_2.out, fun _ => bN3_5.out, fun _ => bN5_3.out, fun _ _ => (kfx bK6), fun _ => bW6.out, fun _ => bE6.out, fun _ => bN1_6.out, fun _ => bN6_1.out, fun _ => bN2_6.out, fun _ => bN6_2.out, fun _ => bN3_6.out, fun _ => bN6_3.out, fun _ => (kfx bK4), fun _ => (by (with_reducible repeat (first | refine blk_drewN ?_ _ | refine blk_drew ?_ | refine blk_alloc ?_ _)); refine blk_put (cs := #[.int .i64 t313, .int .i64 t314, .int .i64 0]) ?_ 2 _ rfl; (with_reducible repeat (first | refine blk_drewN ?_ _ | refine blk_drew ?_ | refine blk_alloc ?_ _)); refine blk_put (cs := #[.int .i64 t313, .int .i64 0, .int .i64 0]) ?_ 1 _ rfl; (with_reducible repeat (first | refine blk_drewN ?_ _ | refine blk_drew ?_ | refine blk_alloc ?_ _)); refine blk_put (cs := #[.int .i64 0, .int .i64 0, .int .i64 0]) ?_ 0 _ rfl; (with_reducible repeat (first | refine blk_drewN ?_ _ | refine blk_drew ?_ | refine blk_alloc ?_ _)); exact bK5.out), fun h0_ => absurd ((hoff 11 (by kernel_rfl)).symm.trans h0_) (by decide), Q_X6_, Q_X7_, Q_X8_⟩
   refine steps_cons ?_ ?_
   ·rintro b a w' ⟨g4, g5, g6, m6_, m7_, m8_, ha, qK1, qK2, qK3, Q_HB, qN5_4, qN4_5, qN6_4, qN4_6, qN6_5, qN5_6, qK4, qW4, qE4, qN1_4, qN4_1, qN2_4, qN4_2, qN3_4, qN4_3, qK5, qW5, qE5, qN1_5, qN5_1, qN2_5, qN5_2, qN3_5, qN5_3, qK6, qW6, qE6, qN1_6, qN6_1, qN2_6, qN6_2, qN3_6, qN6_3, qK4_e9, qK5_e10, qK6_e11, Q_X6_, Q_X7_, Q_X8_⟩ hb_ hon hoff
    refine ⟨_, rfl, fun K hK => ?_⟩
    have e9 : a.tmps[9]? = some (m8_) := by rw [ha]; exact putSel_on (e := (8, 9, m8_)) 8 rfl rfl (hon 8 (by kernel_rfl)) rfl
    rw [Q_X8_ (hon 8 (by kernel_rfl))] at e9
    have e16 : a.tmps[16]? = some (.agg #[.int .i64 t316, .int .i64 t317, .int .i64 t318]) := by rw [ha]; exact putSel_on (e := (5, 16, .agg #[.int .i64 t316, .int .i64 t317, .int .i64 t318])) 5 rfl rfl (hon 5 (by kernel_rfl)) rfl
    replace ha := Aside0.mk ha
    have bK1 := Aside0.mk qK1
    have bK2 := Aside0.mk qK2
    have bK3 := Aside0.mk qK3
    have HB := Aside0.mk Q_HB
    have bN5_4 := Aside0.mk (qN5_4 (hon 6 (by kernel_rfl)) (hon 7 (by kernel_rfl)))
    have bN4_5 := Aside0.mk (qN4_5 (hon 6 (by kernel_rfl)) (hon 7 (by kernel_rfl)))
    have bN6_4 := Aside0.mk (qN6_4 (hon 6 (by kernel_rfl)) (hon 8 (by kernel_rfl)))
    have bN4_6 := Aside0.mk (qN4_6 (hon 6 (by kernel_rfl)) (hon 8 (by kernel_rfl)))
    have bN6_5 := Aside0.mk (qN6_5 (hon 7 (by kernel_rfl)) (hon 8 (by kernel_rfl)))
    have bN5_6 := Aside0.mk (qN5_6 (hon 7 (by kernel_rfl)) (hon 8 (by kernel_rfl)))
    have bW4 := Aside0.mk (qW4 (hon 6 (by kernel_rfl)))
    have bE4 := Aside0.mk (qE4 (hon 6 (by kernel_rfl)))
    have bN1_4 := Aside0.mk (qN1_4 (hon 6 (by kernel_rfl)))
    have bN4_1 := Aside0.mk (qN4_1 (hon 6 (by kernel_rfl)))
    have bN2_4 := Aside0.mk (qN2_4 (hon 6 (by kernel_rfl)))
    have bN4_2 := Aside0.mk (qN4_2 (hon 6 (by kernel_rfl)))
    have bN3_4 := Aside0.mk (qN3_4 (hon 6 (by kernel_rfl)))
    have bN4_3 := Aside0.mk (qN4_3 (hon 6 (by kernel_rfl)))
    have bW5 := Aside0.mk (qW5 (hon 7 (by kernel_rfl)))
    have bE5 := Aside0.mk (qE5 (hon 7 (by kernel_rfl)))
    have bN1_5 := Aside0.mk (qN1_5 (hon 7 (by kernel_rfl)))
    have bN5_1 := Aside0.mk (qN5_1 (hon 7 (by kernel_rfl)))
    have bN2_5 := Aside0.mk (qN2_5 (hon 7 (by kernel_rfl)))
    have bN5_2 := Aside0.mk (qN5_2 (hon 7 (by kernel_rfl)))
    have bN3_5 := Aside0.mk (qN3_5 (hon 7 (by kernel_rfl)))
    have bN5_3 := Aside0.mk (qN5_3 (hon 7 (by kernel_rfl)))
    have bK6 := Aside0.mk (qK6 (hon 8 (by kernel_rfl)) hb_)
    have bW6 := Aside0.mk (qW6 (hon 8 (by kernel_rfl)))
    have bE6 := Aside0.mk (qE6 (hon 8 (by kernel_rfl)))
    have bN1_6 := Aside0.mk (qN1_6 (hon 8 (by kernel_rfl)))
    have bN6_1 := Aside0.mk (qN6_1 (hon 8 (by kernel_rfl)))
    have bN2_6 := Aside0.mk (qN2_6 (hon 8 (by kernel_rfl)))
    have bN6_2 := Aside0.mk (qN6_2 (hon 8 (by kernel_rfl)))
    have bN3_6 := Aside0.mk (qN3_6 (hon 8 (by kernel_rfl)))
    have bN6_3 := Aside0.mk (qN6_3 (hon 8 (by kernel_rfl)))
    have bK4 := Aside0.mk (qK4_e9 (hon 9 (by kernel_rfl)))
    have bK5 := Aside0.mk (qK5_e10 (hon 10 (by kernel_rfl)))
    have hs33 : w'.cell? ⟨g6, 0, none⟩ = some (.int .i64 0) := (blk_cell bK6.out 0).trans rfl
    have hfs33 := blk_frozen bK6.out 0
    have hns33_0 := bN1_6.out
    have hns33_1 := bN2_6.out
    have hns33_2 := bN3_6.out
    have hns33_3 := bN4_6.out
    have hns33_4 := bN5_6.out
    have hms33_0 := bN6_1.out
    have hms33_1 := bN6_2.out
    have hms33_2 := bN6_3.out
    have hms33_3 := bN6_4.out
    have hms33_4 := bN6_5.out
    have hs34 : w'.cell? ⟨g6, 1, none⟩ = some (.int .i64 0) := (blk_cell bK6.out 1).trans rfl
    have hfs34 := blk_frozen bK6.out 1
    have hns34_0 := bN1_6.out
    have hns34_1 := bN2_6.out
    have hns34_2 := bN3_6.out
    have hns34_3 := bN4_6.out
    have hns34_4 := bN5_6.out
    have hms34_0 := bN6_1.out
    have hms34_1 := bN6_2.out
    have hms34_2 := bN6_3.out
    have hms34_3 := bN6_4.out
    have hms34_4 := bN6_5.out
    have hs35 : w'.cell? ⟨g6, 2, none⟩ = some (.int .i64 0) := (blk_cell bK6.out 2).trans rfl
    have hfs35 := blk_frozen bK6.out 2
    have hns35_0 := bN1_6.out
    have hns35_1 := bN2_6.out
    have hns35_2 := bN3_6.out
    have hns35_3 := bN4_6.out
    have hns35_4 := bN5_6.out
    have hms35_0 := bN6_1.out
    have hms35_1 := bN6_2.out
    have hms35_2 := bN6_3.out
    have hms35_3 := bN6_4.out
    have hms35_4 := bN6_5.out
    refine skip_ (w1 := ?_) (by rfl) rfl ?_ ?_
    rotate_left
    ·go_simp
     rfl
    refine hK.out _ _ ⟨g4, g5, g6, m6_, m7_, m8_, (by rw [ha.out]; exact putSel_none (v := undef) rfl), (kfx bK1), (kfx bK2), (kfx bK3), (hbx HB), fun _ _ => bN5_4.out, fun _ _ => bN4_5.out, fun _ _ => bN6_4.out, fun _ _ => bN4_6.out, fun _ _ => bN6_5.out, fun _ _ => bN5_6.out, fun _ h1_ => absurd ((hon 9 (by kernel_rfl)).symm.trans h1_) (by decide), fun _ => bW4.out, fun _ => bE4.out, fun _ => bN1_4.out, fun _ => bN4_1.out, fun _ => bN2_4.out, fun _ => bN4_2.out, fun _ => bN3_4.out, fun _ => bN4_3.out, fun _ h1_ => absurd ((hon 10 (by kernel_rfl)).symm.trans h1_) (by decide), fun _ => bW5.out, fun _ => bE5.out, fun _ => bN1_5.out, fun _ => bN5_1.out, fun _ => bN2_5.out, fun _ => bN5_2.out, fun _ => bN3_5.out, fun _ => bN5_3.out, fun _ h1_ => absurd ((up_self b 11).symm.trans h1_) (by decide), fun _ => bW6.out, fun _ => bE6.out, fun _ => bN1_6.out, fun _ => bN6_1.out, fun _ => bN2_6.out, fun _ => bN6_2.out, fun _ => bN3_6.out, fun _ => bN6_3.out, fun _ => (kfx bK4), fun _ => (kfx bK5), fun _ => (by (with_reducible repeat (first | refine blk_drewN ?_ _ | refine blk_drew ?_ | refine blk_alloc ?_ _)); refine blk_put (cs := #[.int .i64 t316, .int .i64 t317, .int .i64 0]) ?_ 2 _ rfl; (with_reducible repeat (first | refine blk_drewN ?_ _ | refine blk_drew ?_ | refine blk_alloc ?_ _)); refine blk_put (cs := #[.int .i64 t316, .int .i64 0, .int .i64 0]) ?_ 1 _ rfl; (with_reducible repeat (first | refine blk_drewN ?_ _ | refine blk_drew ?_ | refine blk_alloc ?_ _)); refine blk_put (cs := #[.int .i64 0, .int .i64 0, .int .i64 0]) ?_ 0 _ rfl; (with_reducible repeat (first | refine blk_drewN ?_ _ | refine blk_drew ?_ | refine blk_alloc ?_ _)); exact bK6.out), Q_X6_, Q_X7_, Q_X8_⟩
   exact steps_nil
  rintro b a w35 hall ⟨g4, g5, g6, m6_, m7_, m8_, ha, qK1, qK2, qK3, Q_HB, qN5_4, qN4_5, qN6_4, qN4_6, qN6_5, qN5_6, qK4, qW4, qE4, qN1_4, qN4_1, qN2_4, qN4_2, qN3_4, qN4_3, qK5, qW5, qE5, qN1_5, qN5_1, qN2_5, qN5_2, qN3_5, qN5_3, qK6, qW6, qE6, qN1_6, qN6_1, qN2_6, qN6_2, qN3_6, qN6_3, qK4_e9, qK5_e10, qK6_e11, Q_X6_, Q_X7_, Q_X8_⟩
  clear bK1 bK2 bK3 HB
  have hb0_ := hall 0 (by kernel_rfl)
  have hb1_ := hall 1 (by kernel_rfl)
  have hb2_ := hall 2 (by kernel_rfl)
  have hb3_ := hall 3 (by kernel_rfl)
  have hb4_ := hall 4 (by kernel_rfl)
  have hb5_ := hall 5 (by kernel_rfl)
  have hb6_ := hall 6 (by kernel_rfl)
  have hb7_ := hall 7 (by kernel_rfl)
  have hb8_ := hall 8 (by kernel_rfl)
  have hb9_ := hall 9 (by kernel_rfl)
  have hb10_ := hall 10 (by kernel_rfl)
  have hb11_ := hall 11 (by kernel_rfl)
  subst ha
  obtain rfl := Q_X6_ hb6_
  obtain rfl := Q_X7_ hb7_
  obtain rfl := Q_X8_ hb8_
  simp only [putSel, hb0_, hb1_, hb2_, hb3_, hb4_, hb5_, hb6_, hb7_, hb8_, hb9_, hb10_, hb11_, if_true, Act.put, List.setIfInBounds_toArray, List.set_cons_zero, List.set_cons_succ]
  have bK1 := Aside0.mk qK1
  clear qK1
  have bK2 := Aside0.mk qK2
  clear qK2
  have bK3 := Aside0.mk qK3
  clear qK3
  have HB := Aside0.mk Q_HB
  clear Q_HB
  have bN5_4 := Aside0.mk (qN5_4 hb6_ hb7_)
  clear qN5_4
  have bN4_5 := Aside0.mk (qN4_5 hb6_ hb7_)
  clear qN4_5
  have bN6_4 := Aside0.mk (qN6_4 hb6_ hb8_)
  clear qN6_4
  have bN4_6 := Aside0.mk (qN4_6 hb6_ hb8_)
  clear qN4_6
  have bN6_5 := Aside0.mk (qN6_5 hb7_ hb8_)
  clear qN6_5
  have bN5_6 := Aside0.mk (qN5_6 hb7_ hb8_)
  clear qN5_6
  clear qK4
  have bW4 := Aside0.mk (qW4 hb6_)
  clear qW4
  have bE4 := Aside0.mk (qE4 hb6_)
  clear qE4
  have bN1_4 := Aside0.mk (qN1_4 hb6_)
  clear qN1_4
  have bN4_1 := Aside0.mk (qN4_1 hb6_)
  clear qN4_1
  have bN2_4 := Aside0.mk (qN2_4 hb6_)
  clear qN2_4
  have bN4_2 := Aside0.mk (qN4_2 hb6_)
  clear qN4_2
  have bN3_4 := Aside0.mk (qN3_4 hb6_)
  clear qN3_4
  have bN4_3 := Aside0.mk (qN4_3 hb6_)
  clear qN4_3
  clear qK5
  have bW5 := Aside0.mk (qW5 hb7_)
  clear qW5
  have bE5 := Aside0.mk (qE5 hb7_)
  clear qE5
  have bN1_5 := Aside0.mk (qN1_5 hb7_)
  clear qN1_5
  have bN5_1 := Aside0.mk (qN5_1 hb7_)
  clear qN5_1
  have bN2_5 := Aside0.mk (qN2_5 hb7_)
  clear qN2_5
  have bN5_2 := Aside0.mk (qN5_2 hb7_)
  clear qN5_2
  have bN3_5 := Aside0.mk (qN3_5 hb7_)
  clear qN3_5
  have bN5_3 := Aside0.mk (qN5_3 hb7_)
  clear qN5_3
  clear qK6
  have bW6 := Aside0.mk (qW6 hb8_)
  clear qW6
  have bE6 := Aside0.mk (qE6 hb8_)
  clear qE6
  have bN1_6 := Aside0.mk (qN1_6 hb8_)
  clear qN1_6
  have bN6_1 := Aside0.mk (qN6_1 hb8_)
  clear qN6_1
  have bN2_6 := Aside0.mk (qN2_6 hb8_)
  clear qN2_6
  have bN6_2 := Aside0.mk (qN6_2 hb8_)
  clear qN6_2
  have bN3_6 := Aside0.mk (qN3_6 hb8_)
  clear qN3_6
  have bN6_3 := Aside0.mk (qN6_3 hb8_)
  clear qN6_3
  have bK4 := Aside0.mk (qK4_e9 hb9_)
  clear qK4_e9
  have bK5 := Aside0.mk (qK5_e10 hb10_)
  clear qK5_e10
  have bK6 := Aside0.mk (qK6_e11 hb11_)
  clear qK6_e11
  clear hall hb0_ hb1_ hb2_ hb3_ hb4_ hb5_ hb6_ hb7_ hb8_ hb9_ hb10_ hb11_
  have hnb36 := bN4_1.out
  have hnc36 := bN1_4.out
  have hnb37 := bN4_2.out
  have hnc37 := bN2_4.out
  have hnb38 := bN4_3.out
  have hnc38 := bN3_4.out
  have hnb39 := bN4_5.out
  have hnc39 := bN5_4.out
  have hnb40 := bN4_6.out
  have hnc40 := bN6_4.out
  obtain ⟨hcz41_0, hcz41_1, hcz41_2, hfz41_0, hfz41_1, hfz41_2⟩ := cz3 bK4
  have hnb42 := bN5_1.out
  have hnc42 := bN1_5.out
  have hnb43 := bN5_2.out
  have hnc43 := bN2_5.out
  have hnb44 := bN5_3.out
  have hnc44 := bN3_5.out
  have hnb45 := bN5_6.out
  have hnc45 := bN6_5.out
  obtain ⟨hcz46_0, hcz46_1, hcz46_2, hfz46_0, hfz46_1, hfz46_2⟩ := cz3 bK5
  have hnb47 := bN6_1.out
  have hnc47 := bN1_6.out
  have hnb48 := bN6_2.out
  have hnc48 := bN2_6.out
  have hnb49 := bN6_3.out
  have hnc49 := bN3_6.out
  obtain ⟨hcz50_0, hcz50_1, hcz50_2, hfz50_0, hfz50_1, hfz50_2⟩ := cz3 bK6
  try go_wp2_with (first | ((with_reducible refine gate_callee (f := 171) rfl ?_); refine gL 20 Try.func171 #[.agg #[.int .i64 t310, .int .i64 t311, .int .i64 t312], .agg #[.int .i64 t313, .int .i64 t314, .int .i64 t315], .agg #[.int .i64 t316, .int .i64 t317, .int .i64 t318]] ?_; (with_reducible refine (impl_det.calls t310 t311 t312 t313 t314 t315 t316 t317 t318 t322 _ A7.out).mono ?_); rintro e w51 ⟨rfl, hb⟩; refine ⟨_, rfl, ?_⟩; replace bK1 := kb bK1 hb; replace bK2 := kb bK2 hb; replace bK3 := kb bK3 hb; replace bK4 := kb bK4 hb; replace bK5 := kb bK5 hb; replace bK6 := kb bK6 hb; replace HB := bt HB hb; (try clear hb); (try clear hb2); (try clear hk); (try clear hi); obtain ⟨hcz52_0, hcz52_1, hcz52_2, hfz52_0, hfz52_1, hfz52_2⟩ := cz3 bK4; obtain ⟨hcz53_0, hcz53_1, hcz53_2, hfz53_0, hfz53_1, hfz53_2⟩ := cz3 bK5) | ((with_reducible refine gate_callee (f := 148) rfl ?_); refine gL 24 Try.func148 #[.agg #[.int .i64 t310, .int .i64 t311, .int .i64 t312], .agg #[.int .i64 t313, .int .i64 t314, .int .i64 t315]] ?_; (with_reducible refine (impl_crossOf.calls t310 t311 t312 t313 t314 t315 t323 t324 t325 _ A9.out).mono ?_); rintro e w54 ⟨rfl, hb⟩; refine ⟨_, rfl, ?_⟩; replace bK1 := kb bK1 hb; replace bK2 := kb bK2 hb; replace bK3 := kb bK3 hb; replace bK4 := kb bK4 hb; replace bK5 := kb bK5 hb; replace bK6 := kb bK6 hb; replace HB := bt HB hb; (try clear hb); (try clear hb2); (try clear hk); (try clear hi)) | ((with_reducible refine gate_dst (N := 10) rfl ?_); refine box_event ?hg (N := 10) ?hd (cs := #[.int .i64 0, .int .i64 0, .int .i64 0]) (t := 128) ?hr ?_; (case hd => rfl); (case hg => rfl); (case hr => first | (go_simp; done) | (go_simp; rfl)); intro g7 hg w55 hbox hb; have n0_ := kb bK1 hb; have n1_ := kb bK2 hb; have n2_ := kb bK3 hb; have n3_ := kb bK4 hb; have n4_ := kb bK5 hb; have n5_ := kb bK6 hb; have n6_ := bt HB hb; have n7_ := Aside0.mk (hbox); have n8_ := gx hg HB; have n9_ := gx hg HB; have n10_ := nl hg bK1; have n11_ := nr hg bK1; have n12_ := nl hg bK2; have n13_ := nr hg bK2; have n14_ := nl hg bK3; have n15_ := nr hg bK3; have n16_ := nl hg bK4; have n17_ := nr hg bK4; have n18_ := nl hg bK5; have n19_ := nr hg bK5; have n20_ := nl hg bK6; have n21_ := nr hg bK6; clear bK1; clear bK2; clear bK3; clear bK4; clear bK5; clear bK6; clear HB; have bK1 := n0_; have bK2 := n1_; have bK3 := n2_; have bK4 := n3_; have bK5 := n4_; have bK6 := n5_; have HB := n6_; have bK7 := n7_; have bW7 := n8_; have bE7 := n9_; have bN1_7 := n10_; have bN7_1 := n11_; have bN2_7 := n12_; have bN7_2 := n13_; have bN3_7 := n14_; have bN7_3 := n15_; have bN4_7 := n16_; have bN7_4 := n17_; have bN5_7 := n18_; have bN7_5 := n19_; have bN6_7 := n20_; have bN7_6 := n21_; clear n0_ n1_ n2_ n3_ n4_ n5_ n6_ n7_ n8_ n9_ n10_ n11_ n12_ n13_ n14_ n15_ n16_ n17_ n18_ n19_ n20_ n21_; clear hb hbox hg; have hnb56 := bN7_1.out; have hnc56 := bN1_7.out; have hnb57 := bN7_2.out; have hnc57 := bN2_7.out; have hnb58 := bN7_3.out; have hnc58 := bN3_7.out; have hnb59 := bN7_4.out; have hnc59 := bN4_7.out; have hnb60 := bN7_5.out; have hnc60 := bN5_7.out; have hnb61 := bN7_6.out; have hnc61 := bN6_7.out; obtain ⟨hcz62_0, hcz62_1, hcz62_2, hfz62_0, hfz62_1, hfz62_2⟩ := cz3 bK7))
  have n0_ : Aside0 ((((w55.setCell ⟨g7, 0, none⟩ (.int .i64 t323)).setCell ⟨g7, 1, none⟩ (.int .i64 t324)).setCell ⟨g7, 2, none⟩ (.int .i64 t325)).heap[g1]? = some (.cells #[.int .i64 a0_0, .int .i64 a0_1, .int .i64 a0_2, .int .i64 a0_3] 23 (0, 0))) := ⟨by (with_reducible repeat (first | refine blk_drewN ?_ _ | refine blk_drew ?_ | refine blk_alloc ?_ _)); refine blk_far ?_ bN1_7.out _; (with_reducible repeat (first | refine blk_drewN ?_ _ | refine blk_drew ?_ | refine blk_alloc ?_ _)); refine blk_far ?_ bN1_7.out _; (with_reducible repeat (first | refine blk_drewN ?_ _ | refine blk_drew ?_ | refine blk_alloc ?_ _)); refine blk_far ?_ bN1_7.out _; (with_reducible repeat (first | refine blk_drewN ?_ _ | refine blk_drew ?_ | refine blk_alloc ?_ _)); exact bK1.out⟩
  have n1_ : Aside0 ((((w55.setCell ⟨g7, 0, none⟩ (.int .i64 t323)).setCell ⟨g7, 1, none⟩ (.int .i64 t324)).setCell ⟨g7, 2, none⟩ (.int .i64 t325)).heap[g2]? = some (.cells #[.int .i64 a1_0, .int .i64 a1_1, .int .i64 a1_2, .int .i64 a1_3] 23 (0, 0))) := ⟨by (with_reducible repeat (first | refine blk_drewN ?_ _ | refine blk_drew ?_ | refine blk_alloc ?_ _)); refine blk_far ?_ bN2_7.out _; (with_reducible repeat (first | refine blk_drewN ?_ _ | refine blk_drew ?_ | refine blk_alloc ?_ _)); refine blk_far ?_ bN2_7.out _; (with_reducible repeat (first | refine blk_drewN ?_ _ | refine blk_drew ?_ | refine blk_alloc ?_ _)); refine blk_far ?_ bN2_7.out _; (with_reducible repeat (first | refine blk_drewN ?_ _ | refine blk_drew ?_ | refine blk_alloc ?_ _)); exact bK2.out⟩
  have n2_ : Aside0 ((((w55.setCell ⟨g7, 0, none⟩ (.int .i64 t323)).setCell ⟨g7, 1, none⟩ (.int .i64 t324)).setCell ⟨g7, 2, none⟩ (.int .i64 t325)).heap[g3]? = some (.cells #[.int .i64 a2_0, .int .i64 a2_1, .int .i64 a2_2, .int .i64 a2_3] 23 (0, 0))) := ⟨by (with_reducible repeat (first | refine blk_drewN ?_ _ | refine blk_drew ?_ | refine blk_alloc ?_ _)); refine blk_far ?_ bN3_7.out _; (with_reducible repeat (first | refine blk_drewN ?_ _ | refine blk_drew ?_ | refine blk_alloc ?_ _)); refine blk_far ?_ bN3_7.out _; (with_reducible repeat (first | refine blk_drewN ?_ _ | refine blk_drew ?_ | refine blk_alloc ?_ _)); refine blk_far ?_ bN3_7.out _; (with_reducible repeat (first | refine blk_drewN ?_ _ | refine blk_drew ?_ | refine blk_alloc ?_ _)); exact bK3.out⟩
  have n3_ : Aside0 ((((w55.setCell ⟨g7, 0, none⟩ (.int .i64 t323)).setCell ⟨g7, 1, none⟩ (.int .i64 t324)).setCell ⟨g7, 2, none⟩ (.int .i64 t325)).heap[g4]? = some (.cells #[.int .i64 t310, .int .i64 t311, .int .i64 t312] 128 (0, 0))) := ⟨by (with_reducible repeat (first | refine blk_drewN ?_ _ | refine blk_drew ?_ | refine blk_alloc ?_ _)); refine blk_far ?_ bN4_7.out _; (with_reducible repeat (first | refine blk_drewN ?_ _ | refine blk_drew ?_ | refine blk_alloc ?_ _)); refine blk_far ?_ bN4_7.out _; (with_reducible repeat (first | refine blk_drewN ?_ _ | refine blk_drew ?_ | refine blk_alloc ?_ _)); refine blk_far ?_ bN4_7.out _; (with_reducible repeat (first | refine blk_drewN ?_ _ | refine blk_drew ?_ | refine blk_alloc ?_ _)); exact bK4.out⟩
  have n4_ : Aside0 ((((w55.setCell ⟨g7, 0, none⟩ (.int .i64 t323)).setCell ⟨g7, 1, none⟩ (.int .i64 t324)).setCell ⟨g7, 2, none⟩ (.int .i64 t325)).heap[g5]? = some (.cells #[.int .i64 t313, .int .i64 t314, .int .i64 t315] 128 (0, 0))) := ⟨by (with_reducible repeat (first | refine blk_drewN ?_ _ | refine blk_drew ?_ | refine blk_alloc ?_ _)); refine blk_far ?_ bN5_7.out _; (with_reducible repeat (first | refine blk_drewN ?_ _ | refine blk_drew ?_ | refine blk_alloc ?_ _)); refine blk_far ?_ bN5_7.out _; (with_reducible repeat (first | refine blk_drewN ?_ _ | refine blk_drew ?_ | refine blk_alloc ?_ _)); refine blk_far ?_ bN5_7.out _; (with_reducible repeat (first | refine blk_drewN ?_ _ | refine blk_drew ?_ | refine blk_alloc ?_ _)); exact bK5.out⟩
  have n5_ : Aside0 ((((w55.setCell ⟨g7, 0, none⟩ (.int .i64 t323)).setCell ⟨g7, 1, none⟩ (.int .i64 t324)).setCell ⟨g7, 2, none⟩ (.int .i64 t325)).heap[g6]? = some (.cells #[.int .i64 t316, .int .i64 t317, .int .i64 t318] 128 (0, 0))) := ⟨by (with_reducible repeat (first | refine blk_drewN ?_ _ | refine blk_drew ?_ | refine blk_alloc ?_ _)); refine blk_far ?_ bN6_7.out _; (with_reducible repeat (first | refine blk_drewN ?_ _ | refine blk_drew ?_ | refine blk_alloc ?_ _)); refine blk_far ?_ bN6_7.out _; (with_reducible repeat (first | refine blk_drewN ?_ _ | refine blk_drew ?_ | refine blk_alloc ?_ _)); refine blk_far ?_ bN6_7.out _; (with_reducible repeat (first | refine blk_drewN ?_ _ | refine blk_drew ?_ | refine blk_alloc ?_ _)); exact bK6.out⟩
  have n6_ : Aside0 ((((w55.setCell ⟨g7, 0, none⟩ (.int .i64 t323)).setCell ⟨g7, 1, none⟩ (.int .i64 t324)).setCell ⟨g7, 2, none⟩ (.int .i64 t325)).heap[g7]? = some (.cells #[.int .i64 t323, .int .i64 t324, .int .i64 t325] 128 (0, 0))) := ⟨by (with_reducible repeat (first | refine blk_drewN ?_ _ | refine blk_drew ?_ | refine blk_alloc ?_ _)); refine blk_put (cs := #[.int .i64 t323, .int .i64 t324, .int .i64 0]) ?_ 2 _ rfl; (with_reducible repeat (first | refine blk_drewN ?_ _ | refine blk_drew ?_ | refine blk_alloc ?_ _)); refine blk_put (cs := #[.int .i64 t323, .int .i64 0, .int .i64 0]) ?_ 1 _ rfl; (with_reducible repeat (first | refine blk_drewN ?_ _ | refine blk_drew ?_ | refine blk_alloc ?_ _)); refine blk_put (cs := #[.int .i64 0, .int .i64 0, .int .i64 0]) ?_ 0 _ rfl; (with_reducible repeat (first | refine blk_drewN ?_ _ | refine blk_drew ?_ | refine blk_alloc ?_ _)); exact bK7.out⟩
  have n7_ : Aside0 (Below w.heap.size w (((w55.setCell ⟨g7, 0, none⟩ (.int .i64 t323)).setCell ⟨g7, 1, none⟩ (.int .i64 t324)).setCell ⟨g7, 2, none⟩ (.int .i64 t325))) := ⟨by repeat (first | (with_reducible first | exact HB.out | apply below_alloc | apply pw_below_drewN | apply below_drew1 | refine below_set ?_ bE1.out | refine below_set ?_ bE2.out | refine below_set ?_ bE3.out | refine below_set ?_ bE4.out | refine below_set ?_ bE5.out | refine below_set ?_ bE6.out | refine below_set ?_ bE7.out) | exact HB.out)⟩
  (try clear bK1)
  (try clear bK2)
  (try clear bK3)
  (try clear bK4)
  (try clear bK5)
  (try clear bK6)
  (try clear bK7)
  (try clear HB)
  generalize (((w55.setCell ⟨g7, 0, none⟩ (.int .i64 t323)).setCell ⟨g7, 1, none⟩ (.int .i64 t324)).setCell ⟨g7, 2, none⟩ (.int .i64 t325)) = w63 at n0_ n1_ n2_ n3_ n4_ n5_ n6_ n7_ ⊢
  have bK1 := n0_
  have bK2 := n1_
  have bK3 := n2_
  have bK4 := n3_
  have bK5 := n4_
  have bK6 := n5_
  have bK7 := n6_
  have HB := n7_
  clear n0_ n1_ n2_ n3_ n4_ n5_ n6_ n7_
  replace bK1 := Aside0.mk (blk_drew bK1.out)
  replace bK2 := Aside0.mk (blk_drew bK2.out)
  replace bK3 := Aside0.mk (blk_drew bK3.out)
  replace bK4 := Aside0.mk (blk_drew bK4.out)
  replace bK5 := Aside0.mk (blk_drew bK5.out)
  replace bK6 := Aside0.mk (blk_drew bK6.out)
  replace bK7 := Aside0.mk (blk_drew bK7.out)
  replace HB := Aside0.mk (below_drew1 HB.out)
  refine start_ (n := 23) (S := fun w' => w'.cell? ⟨g5, 0, none⟩ = some (.int .i64 t313) ∧ w'.cell? ⟨g5, 1, none⟩ = some (.int .i64 t314) ∧ w'.cell? ⟨g5, 2, none⟩ = some (.int .i64 t315) ∧ w'.cell? ⟨g6, 0, none⟩ = some (.int .i64 t316) ∧ w'.cell? ⟨g6, 1, none⟩ = some (.int .i64 t317) ∧ w'.cell? ⟨g6, 2, none⟩ = some (.int .i64 t318) ∧ w'.cell? ⟨g7, 0, none⟩ = some (.int .i64 t323) ∧ w'.cell? ⟨g7, 1, none⟩ = some (.int .i64 t324) ∧ w'.cell? ⟨g7, 2, none⟩ = some (.int .i64 t325) ∧ w'.cell? ⟨g4, 0, none⟩ = some (.int .i64 t310) ∧ w'.cell? ⟨g4, 1, none⟩ = some (.int .i64 t311) ∧ w'.cell? ⟨g4, 2, none⟩ = some (.int .i64 t312) ∧ w'.cell? ⟨g1, 0, none⟩ = some (.int .i64 a0_0) ∧ w'.cell? ⟨g1, 1, none⟩ = some (.int .i64 a0_1) ∧ w'.cell? ⟨g1, 2, none⟩ = some (.int .i64 a0_2) ∧ w'.cell? ⟨g1, 3, none⟩ = some (.int .i64 a0_3) ∧ w'.cell? ⟨g2, 0, none⟩ = some (.int .i64 a1_0) ∧ w'.cell? ⟨g2, 1, none⟩ = some (.int .i64 a1_1) ∧ w'.cell? ⟨g2, 2, none⟩ = some (.int .i64 a1_2) ∧ w'.cell? ⟨g2, 3, none⟩ = some (.int .i64 a1_3) ∧ w'.cell? ⟨g3, 0, none⟩ = some (.int .i64 a2_0) ∧ w'.cell? ⟨g3, 1, none⟩ = some (.int .i64 a2_1) ∧ w'.cell? ⟨g3, 2, none⟩ = some (.int .i64 a2_2) ∧ w'.cell? ⟨g3, 3, none⟩ = some (.int .i64 a2_3)) (ds := []) (bl 23 0) (by kernel_rfl) rfl rfl ⟨(blk_cell bK5.out 0).trans rfl, (blk_cell bK5.out 1).trans rfl, (blk_cell bK5.out 2).trans rfl, (blk_cell bK6.out 0).trans rfl, (blk_cell bK6.out 1).trans rfl, (blk_cell bK6.out 2).trans rfl, (blk_cell bK7.out 0).trans rfl, (blk_cell bK7.out 1).trans rfl, (blk_cell bK7.out 2).trans rfl, (blk_cell bK4.out 0).trans rfl, (blk_cell bK4.out 1).trans rfl, (blk_cell bK4.out 2).trans rfl, (blk_cell bK1.out 0).trans rfl, (blk_cell bK1.out 1).trans rfl, (blk_cell bK1.out 2).trans rfl, (blk_cell bK1.out 3).trans rfl, (blk_cell bK2.out 0).trans rfl, (blk_cell bK2.out 1).trans rfl, (blk_cell bK2.out 2).trans rfl, (blk_cell bK2.out 3).trans rfl, (blk_cell bK3.out 0).trans rfl, (blk_cell bK3.out 1).trans rfl, (blk_cell bK3.out 2).trans rfl, (blk_cell bK3.out 3).trans rfl⟩ (fun hHeld => ?_); refine with_tabW impl_clash3.tab5 impl_clash3.bits5 (fun HT_ HW_ => ?_)
  generalize w63.drew = w64 at bK1 bK2 bK3 bK4 bK5 bK6 bK7 HB hHeld ⊢
  refine pS 14 39 16384 ?_
  refine pS 16 41 81920 ?_
  refine pS 18 43 344064 ?_
  refine tS 0 25 344065 ?_
  refine tS 1 26 344067 ?_
  refine tS 3 28 344075 ?_
  refine tS 5 30 344107 ?_
  refine tS 6 31 344171 ?_
  refine tS 8 33 344427 ?_
  refine tS 10 35 345451 ?_
  refine tS 11 36 347499 ?_
  refine tS 15 40 380267 ?_
  refine tS 17 42 511339 ?_
  refine tS 19 44 1035627 ?_
  refine join_ (σ := Value × Value) 2 (bl 23 2097151) (fun s_ => [(27, .agg #[.int .i64 t327, .int .i64 t328, .int .i64 t329]), (29, .int .i64 t330), (32, .agg #[.int .i64 t331, .int .i64 t332, .int .i64 t333]), (34, .int .i64 t334), (37, .int .i64 t335), (38, s_.1), (45, s_.2)]) (fun s_ w' => (w'.cell? ⟨g5, 0, none⟩ = some (.int .i64 t313) ∧ w'.cell? ⟨g5, 1, none⟩ = some (.int .i64 t314) ∧ w'.cell? ⟨g5, 2, none⟩ = some (.int .i64 t315) ∧ w'.cell? ⟨g6, 0, none⟩ = some (.int .i64 t316) ∧ w'.cell? ⟨g6, 1, none⟩ = some (.int .i64 t317) ∧ w'.cell? ⟨g6, 2, none⟩ = some (.int .i64 t318) ∧ w'.cell? ⟨g7, 0, none⟩ = some (.int .i64 t323) ∧ w'.cell? ⟨g7, 1, none⟩ = some (.int .i64 t324) ∧ w'.cell? ⟨g7, 2, none⟩ = some (.int .i64 t325) ∧ w'.cell? ⟨g4, 0, none⟩ = some (.int .i64 t310) ∧ w'.cell? ⟨g4, 1, none⟩ = some (.int .i64 t311) ∧ w'.cell? ⟨g4, 2, none⟩ = some (.int .i64 t312) ∧ w'.cell? ⟨g1, 0, none⟩ = some (.int .i64 a0_0) ∧ w'.cell? ⟨g1, 1, none⟩ = some (.int .i64 a0_1) ∧ w'.cell? ⟨g1, 2, none⟩ = some (.int .i64 a0_2) ∧ w'.cell? ⟨g1, 3, none⟩ = some (.int .i64 a0_3) ∧ w'.cell? ⟨g2, 0, none⟩ = some (.int .i64 a1_0) ∧ w'.cell? ⟨g2, 1, none⟩ = some (.int .i64 a1_1) ∧ w'.cell? ⟨g2, 2, none⟩ = some (.int .i64 a1_2) ∧ w'.cell? ⟨g2, 3, none⟩ = some (.int .i64 a1_3) ∧ w'.cell? ⟨g3, 0, none⟩ = some (.int .i64 a2_0) ∧ w'.cell? ⟨g3, 1, none⟩ = some (.int .i64 a2_1) ∧ w'.cell? ⟨g3, 2, none⟩ = some (.int .i64 a2_2) ∧ w'.cell? ⟨g3, 3, none⟩ = some (.int .i64 a2_3)) ∧ (Kd.R (Kd.int .i64) 3 w' w.heap.size (fun k_ => some k_ ≠ (s_.2 : Value).ownBlock) s_.1 y336) ∧ (Kd.R (Kd.int .i64) 3 w' w.heap.size (fun k_ => some k_ ≠ (s_.1 : Value).ownBlock) s_.2 y339) ∧ (w'.heap[g1]? = some (.cells #[.int .i64 a0_0, .int .i64 a0_1, .int .i64 a0_2, .int .i64 a0_3] 23 (0, 0))) ∧ (w'.heap[g2]? = some (.cells #[.int .i64 a1_0, .int .i64 a1_1, .int .i64 a1_2, .int .i64 a1_3] 23 (0, 0))) ∧ (w'.heap[g3]? = some (.cells #[.int .i64 a2_0, .int .i64 a2_1, .int .i64 a2_2, .int .i64 a2_3] 23 (0, 0))) ∧ (w'.heap[g4]? = some (.cells #[.int .i64 t310, .int .i64 t311, .int .i64 t312] 128 (0, 0))) ∧ (w'.heap[g5]? = some (.cells #[.int .i64 t313, .int .i64 t314, .int .i64 t315] 128 (0, 0))) ∧ (w'.heap[g6]? = some (.cells #[.int .i64 t316, .int .i64 t317, .int .i64 t318] 128 (0, 0))) ∧ (w'.heap[g7]? = some (.cells #[.int .i64 t323, .int .i64 t324, .int .i64 t325] 128 (0, 0))) ∧ (Below w.heap.size w w')) ?_ ?_
  rotate_left
  ·intro hJ2_4_7_9_12_13_20
   refine join_ (σ := Value) 3 (bl 23 1048575) (fun s_ => [(27, .agg #[.int .i64 t327, .int .i64 t328, .int .i64 t329]), (29, .int .i64 t330), (32, .agg #[.int .i64 t331, .int .i64 t332, .int .i64 t333]), (34, .int .i64 t334), (37, .int .i64 t335), (38, s_)]) (fun s_ w' => (w'.cell? ⟨g5, 0, none⟩ = some (.int .i64 t313) ∧ w'.cell? ⟨g5, 1, none⟩ = some (.int .i64 t314) ∧ w'.cell? ⟨g5, 2, none⟩ = some (.int .i64 t315) ∧ w'.cell? ⟨g6, 0, none⟩ = some (.int .i64 t316) ∧ w'.cell? ⟨g6, 1, none⟩ = some (.int .i64 t317) ∧ w'.cell? ⟨g6, 2, none⟩ = some (.int .i64 t318) ∧ w'.cell? ⟨g7, 0, none⟩ = some (.int .i64 t323) ∧ w'.cell? ⟨g7, 1, none⟩ = some (.int .i64 t324) ∧ w'.cell? ⟨g7, 2, none⟩ = some (.int .i64 t325) ∧ w'.cell? ⟨g4, 0, none⟩ = some (.int .i64 t310) ∧ w'.cell? ⟨g4, 1, none⟩ = some (.int .i64 t311) ∧ w'.cell? ⟨g4, 2, none⟩ = some (.int .i64 t312) ∧ w'.cell? ⟨g1, 0, none⟩ = some (.int .i64 a0_0) ∧ w'.cell? ⟨g1, 1, none⟩ = some (.int .i64 a0_1) ∧ w'.cell? ⟨g1, 2, none⟩ = some (.int .i64 a0_2) ∧ w'.cell? ⟨g1, 3, none⟩ = some (.int .i64 a0_3) ∧ w'.cell? ⟨g2, 0, none⟩ = some (.int .i64 a1_0) ∧ w'.cell? ⟨g2, 1, none⟩ = some (.int .i64 a1_1) ∧ w'.cell? ⟨g2, 2, none⟩ = some (.int .i64 a1_2) ∧ w'.cell? ⟨g2, 3, none⟩ = some (.int .i64 a1_3) ∧ w'.cell? ⟨g3, 0, none⟩ = some (.int .i64 a2_0) ∧ w'.cell? ⟨g3, 1, none⟩ = some (.int .i64 a2_1) ∧ w'.cell? ⟨g3, 2, none⟩ = some (.int .i64 a2_2) ∧ w'.cell? ⟨g3, 3, none⟩ = some (.int .i64 a2_3)) ∧ (Kd.R (Kd.int .i64) 3 w' w.heap.size (fun _ => True) s_ y336) ∧ (w'.heap[g1]? = some (.cells #[.int .i64 a0_0, .int .i64 a0_1, .int .i64 a0_2, .int .i64 a0_3] 23 (0, 0))) ∧ (w'.heap[g2]? = some (.cells #[.int .i64 a1_0, .int .i64 a1_1, .int .i64 a1_2, .int .i64 a1_3] 23 (0, 0))) ∧ (w'.heap[g3]? = some (.cells #[.int .i64 a2_0, .int .i64 a2_1, .int .i64 a2_2, .int .i64 a2_3] 23 (0, 0))) ∧ (w'.heap[g4]? = some (.cells #[.int .i64 t310, .int .i64 t311, .int .i64 t312] 128 (0, 0))) ∧ (w'.heap[g5]? = some (.cells #[.int .i64 t313, .int .i64 t314, .int .i64 t315] 128 (0, 0))) ∧ (w'.heap[g6]? = some (.cells #[.int .i64 t316, .int .i64 t317, .int .i64 t318] 128 (0, 0))) ∧ (w'.heap[g7]? = some (.cells #[.int .i64 t323, .int .i64 t324, .int .i64 t325] 128 (0, 0))) ∧ (Below w.heap.size w w')) ?_ ?_
   rotate_left
   ·intro hJ2_4_7_9_12_13
    refine join_ (σ := Value) 3 (bl 23 2088959) (fun s_ => [(27, .agg #[.int .i64 t327, .int .i64 t328, .int .i64 t329]), (29, .int .i64 t330), (32, .agg #[.int .i64 t331, .int .i64 t332, .int .i64 t333]), (34, .int .i64 t334), (37, .int .i64 t335), (45, s_)]) (fun s_ w' => (w'.cell? ⟨g5, 0, none⟩ = some (.int .i64 t313) ∧ w'.cell? ⟨g5, 1, none⟩ = some (.int .i64 t314) ∧ w'.cell? ⟨g5, 2, none⟩ = some (.int .i64 t315) ∧ w'.cell? ⟨g6, 0, none⟩ = some (.int .i64 t316) ∧ w'.cell? ⟨g6, 1, none⟩ = some (.int .i64 t317) ∧ w'.cell? ⟨g6, 2, none⟩ = some (.int .i64 t318) ∧ w'.cell? ⟨g7, 0, none⟩ = some (.int .i64 t323) ∧ w'.cell? ⟨g7, 1, none⟩ = some (.int .i64 t324) ∧ w'.cell? ⟨g7, 2, none⟩ = some (.int .i64 t325) ∧ w'.cell? ⟨g4, 0, none⟩ = some (.int .i64 t310) ∧ w'.cell? ⟨g4, 1, none⟩ = some (.int .i64 t311) ∧ w'.cell? ⟨g4, 2, none⟩ = some (.int .i64 t312) ∧ w'.cell? ⟨g1, 0, none⟩ = some (.int .i64 a0_0) ∧ w'.cell? ⟨g1, 1, none⟩ = some (.int .i64 a0_1) ∧ w'.cell? ⟨g1, 2, none⟩ = some (.int .i64 a0_2) ∧ w'.cell? ⟨g1, 3, none⟩ = some (.int .i64 a0_3) ∧ w'.cell? ⟨g2, 0, none⟩ = some (.int .i64 a1_0) ∧ w'.cell? ⟨g2, 1, none⟩ = some (.int .i64 a1_1) ∧ w'.cell? ⟨g2, 2, none⟩ = some (.int .i64 a1_2) ∧ w'.cell? ⟨g2, 3, none⟩ = some (.int .i64 a1_3) ∧ w'.cell? ⟨g3, 0, none⟩ = some (.int .i64 a2_0) ∧ w'.cell? ⟨g3, 1, none⟩ = some (.int .i64 a2_1) ∧ w'.cell? ⟨g3, 2, none⟩ = some (.int .i64 a2_2) ∧ w'.cell? ⟨g3, 3, none⟩ = some (.int .i64 a2_3)) ∧ (Kd.R (Kd.int .i64) 3 w' w.heap.size (fun _ => True) s_ y339) ∧ (w'.heap[g1]? = some (.cells #[.int .i64 a0_0, .int .i64 a0_1, .int .i64 a0_2, .int .i64 a0_3] 23 (0, 0))) ∧ (w'.heap[g2]? = some (.cells #[.int .i64 a1_0, .int .i64 a1_1, .int .i64 a1_2, .int .i64 a1_3] 23 (0, 0))) ∧ (w'.heap[g3]? = some (.cells #[.int .i64 a2_0, .int .i64 a2_1, .int .i64 a2_2, .int .i64 a2_3] 23 (0, 0))) ∧ (w'.heap[g4]? = some (.cells #[.int .i64 t310, .int .i64 t311, .int .i64 t312] 128 (0, 0))) ∧ (w'.heap[g5]? = some (.cells #[.int .i64 t313, .int .i64 t314, .int .i64 t315] 128 (0, 0))) ∧ (w'.heap[g6]? = some (.cells #[.int .i64 t316, .int .i64 t317, .int .i64 t318] 128 (0, 0))) ∧ (w'.heap[g7]? = some (.cells #[.int .i64 t323, .int .i64 t324, .int .i64 t325] 128 (0, 0))) ∧ (Below w.heap.size w w')) ?_ ?_
    rotate_left
    ·intro hJ2_4_7_9_12_20
     refine join_ (σ := Unit) 4 (bl 23 1040383) (fun s_ => [(27, .agg #[.int .i64 t327, .int .i64 t328, .int .i64 t329]), (29, .int .i64 t330), (32, .agg #[.int .i64 t331, .int .i64 t332, .int .i64 t333]), (34, .int .i64 t334), (37, .int .i64 t335)]) (fun s_ w' => (w'.cell? ⟨g5, 0, none⟩ = some (.int .i64 t313) ∧ w'.cell? ⟨g5, 1, none⟩ = some (.int .i64 t314) ∧ w'.cell? ⟨g5, 2, none⟩ = some (.int .i64 t315) ∧ w'.cell? ⟨g6, 0, none⟩ = some (.int .i64 t316) ∧ w'.cell? ⟨g6, 1, none⟩ = some (.int .i64 t317) ∧ w'.cell? ⟨g6, 2, none⟩ = some (.int .i64 t318) ∧ w'.cell? ⟨g7, 0, none⟩ = some (.int .i64 t323) ∧ w'.cell? ⟨g7, 1, none⟩ = some (.int .i64 t324) ∧ w'.cell? ⟨g7, 2, none⟩ = some (.int .i64 t325) ∧ w'.cell? ⟨g4, 0, none⟩ = some (.int .i64 t310) ∧ w'.cell? ⟨g4, 1, none⟩ = some (.int .i64 t311) ∧ w'.cell? ⟨g4, 2, none⟩ = some (.int .i64 t312) ∧ w'.cell? ⟨g1, 0, none⟩ = some (.int .i64 a0_0) ∧ w'.cell? ⟨g1, 1, none⟩ = some (.int .i64 a0_1) ∧ w'.cell? ⟨g1, 2, none⟩ = some (.int .i64 a0_2) ∧ w'.cell? ⟨g1, 3, none⟩ = some (.int .i64 a0_3) ∧ w'.cell? ⟨g2, 0, none⟩ = some (.int .i64 a1_0) ∧ w'.cell? ⟨g2, 1, none⟩ = some (.int .i64 a1_1) ∧ w'.cell? ⟨g2, 2, none⟩ = some (.int .i64 a1_2) ∧ w'.cell? ⟨g2, 3, none⟩ = some (.int .i64 a1_3) ∧ w'.cell? ⟨g3, 0, none⟩ = some (.int .i64 a2_0) ∧ w'.cell? ⟨g3, 1, none⟩ = some (.int .i64 a2_1) ∧ w'.cell? ⟨g3, 2, none⟩ = some (.int .i64 a2_2) ∧ w'.cell? ⟨g3, 3, none⟩ = some (.int .i64 a2_3)) ∧ (w'.heap[g1]? = some (.cells #[.int .i64 a0_0, .int .i64 a0_1, .int .i64 a0_2, .int .i64 a0_3] 23 (0, 0))) ∧ (w'.heap[g2]? = some (.cells #[.int .i64 a1_0, .int .i64 a1_1, .int .i64 a1_2, .int .i64 a1_3] 23 (0, 0))) ∧ (w'.heap[g3]? = some (.cells #[.int .i64 a2_0, .int .i64 a2_1, .int .i64 a2_2, .int .i64 a2_3] 23 (0, 0))) ∧ (w'.heap[g4]? = some (.cells #[.int .i64 t310, .int .i64 t311, .int .i64 t312] 128 (0, 0))) ∧ (w'.heap[g5]? = some (.cells #[.int .i64 t313, .int .i64 t314, .int .i64 t315] 128 (0, 0))) ∧ (w'.heap[g6]? = some (.cells #[.int .i64 t316, .int .i64 t317, .int .i64 t318] 128 (0, 0))) ∧ (w'.heap[g7]? = some (.cells #[.int .i64 t323, .int .i64 t324, .int .i64 t325] 128 (0, 0))) ∧ (Below w.heap.size w w')) ?_ ?_
     rotate_left
     ·intro hJ2_4_7_9_12
      refine join_ (σ := Value) 4 (bl 23 2084863) (fun s_ => [(27, .agg #[.int .i64 t327, .int .i64 t328, .int .i64 t329]), (29, .int .i64 t330), (32, .agg #[.int .i64 t331, .int .i64 t332, .int .i64 t333]), (34, .int .i64 t334), (45, s_)]) (fun s_ w' => (w'.cell? ⟨g5, 0, none⟩ = some (.int .i64 t313) ∧ w'.cell? ⟨g5, 1, none⟩ = some (.int .i64 t314) ∧ w'.cell? ⟨g5, 2, none⟩ = some (.int .i64 t315) ∧ w'.cell? ⟨g6, 0, none⟩ = some (.int .i64 t316) ∧ w'.cell? ⟨g6, 1, none⟩ = some (.int .i64 t317) ∧ w'.cell? ⟨g6, 2, none⟩ = some (.int .i64 t318) ∧ w'.cell? ⟨g7, 0, none⟩ = some (.int .i64 t323) ∧ w'.cell? ⟨g7, 1, none⟩ = some (.int .i64 t324) ∧ w'.cell? ⟨g7, 2, none⟩ = some (.int .i64 t325) ∧ w'.cell? ⟨g4, 0, none⟩ = some (.int .i64 t310) ∧ w'.cell? ⟨g4, 1, none⟩ = some (.int .i64 t311) ∧ w'.cell? ⟨g4, 2, none⟩ = some (.int .i64 t312) ∧ w'.cell? ⟨g1, 0, none⟩ = some (.int .i64 a0_0) ∧ w'.cell? ⟨g1, 1, none⟩ = some (.int .i64 a0_1) ∧ w'.cell? ⟨g1, 2, none⟩ = some (.int .i64 a0_2) ∧ w'.cell? ⟨g1, 3, none⟩ = some (.int .i64 a0_3) ∧ w'.cell? ⟨g2, 0, none⟩ = some (.int .i64 a1_0) ∧ w'.cell? ⟨g2, 1, none⟩ = some (.int .i64 a1_1) ∧ w'.cell? ⟨g2, 2, none⟩ = some (.int .i64 a1_2) ∧ w'.cell? ⟨g2, 3, none⟩ = some (.int .i64 a1_3) ∧ w'.cell? ⟨g3, 0, none⟩ = some (.int .i64 a2_0) ∧ w'.cell? ⟨g3, 1, none⟩ = some (.int .i64 a2_1) ∧ w'.cell? ⟨g3, 2, none⟩ = some (.int .i64 a2_2) ∧ w'.cell? ⟨g3, 3, none⟩ = some (.int .i64 a2_3)) ∧ (Kd.R (Kd.int .i64) 3 w' w.heap.size (fun _ => True) s_ y339) ∧ (w'.heap[g1]? = some (.cells #[.int .i64 a0_0, .int .i64 a0_1, .int .i64 a0_2, .int .i64 a0_3] 23 (0, 0))) ∧ (w'.heap[g2]? = some (.cells #[.int .i64 a1_0, .int .i64 a1_1, .int .i64 a1_2, .int .i64 a1_3] 23 (0, 0))) ∧ (w'.heap[g3]? = some (.cells #[.int .i64 a2_0, .int .i64 a2_1, .int .i64 a2_2, .int .i64 a2_3] 23 (0, 0))) ∧ (w'.heap[g4]? = some (.cells #[.int .i64 t310, .int .i64 t311, .int .i64 t312] 128 (0, 0))) ∧ (w'.heap[g5]? = some (.cells #[.int .i64 t313, .int .i64 t314, .int .i64 t315] 128 (0, 0))) ∧ (w'.heap[g6]? = some (.cells #[.int .i64 t316, .int .i64 t317, .int .i64 t318] 128 (0, 0))) ∧ (w'.heap[g7]? = some (.cells #[.int .i64 t323, .int .i64 t324, .int .i64 t325] 128 (0, 0))) ∧ (Below w.heap.size w w')) ?_ ?_
      rotate_left
      ·intro hJ2_4_7_9_20
       refine join_ (σ := Unit) 5 (bl 23 1036287) (fun s_ => [(27, .agg #[.int .i64 t327, .int .i64 t328, .int .i64 t329]), (29, .int .i64 t330), (32, .agg #[.int .i64 t331, .int .i64 t332, .int .i64 t333]), (34, .int .i64 t334)]) (fun s_ w' => (w'.cell? ⟨g5, 0, none⟩ = some (.int .i64 t313) ∧ w'.cell? ⟨g5, 1, none⟩ = some (.int .i64 t314) ∧ w'.cell? ⟨g5, 2, none⟩ = some (.int .i64 t315) ∧ w'.cell? ⟨g6, 0, none⟩ = some (.int .i64 t316) ∧ w'.cell? ⟨g6, 1, none⟩ = some (.int .i64 t317) ∧ w'.cell? ⟨g6, 2, none⟩ = some (.int .i64 t318) ∧ w'.cell? ⟨g7, 0, none⟩ = some (.int .i64 t323) ∧ w'.cell? ⟨g7, 1, none⟩ = some (.int .i64 t324) ∧ w'.cell? ⟨g7, 2, none⟩ = some (.int .i64 t325) ∧ w'.cell? ⟨g4, 0, none⟩ = some (.int .i64 t310) ∧ w'.cell? ⟨g4, 1, none⟩ = some (.int .i64 t311) ∧ w'.cell? ⟨g4, 2, none⟩ = some (.int .i64 t312) ∧ w'.cell? ⟨g1, 0, none⟩ = some (.int .i64 a0_0) ∧ w'.cell? ⟨g1, 1, none⟩ = some (.int .i64 a0_1) ∧ w'.cell? ⟨g1, 2, none⟩ = some (.int .i64 a0_2) ∧ w'.cell? ⟨g1, 3, none⟩ = some (.int .i64 a0_3) ∧ w'.cell? ⟨g2, 0, none⟩ = some (.int .i64 a1_0) ∧ w'.cell? ⟨g2, 1, none⟩ = some (.int .i64 a1_1) ∧ w'.cell? ⟨g2, 2, none⟩ = some (.int .i64 a1_2) ∧ w'.cell? ⟨g2, 3, none⟩ = some (.int .i64 a1_3) ∧ w'.cell? ⟨g3, 0, none⟩ = some (.int .i64 a2_0) ∧ w'.cell? ⟨g3, 1, none⟩ = some (.int .i64 a2_1) ∧ w'.cell? ⟨g3, 2, none⟩ = some (.int .i64 a2_2) ∧ w'.cell? ⟨g3, 3, none⟩ = some (.int .i64 a2_3)) ∧ (w'.heap[g1]? = some (.cells #[.int .i64 a0_0, .int .i64 a0_1, .int .i64 a0_2, .int .i64 a0_3] 23 (0, 0))) ∧ (w'.heap[g2]? = some (.cells #[.int .i64 a1_0, .int .i64 a1_1, .int .i64 a1_2, .int .i64 a1_3] 23 (0, 0))) ∧ (w'.heap[g3]? = some (.cells #[.int .i64 a2_0, .int .i64 a2_1, .int .i64 a2_2, .int .i64 a2_3] 23 (0, 0))) ∧ (w'.heap[g4]? = some (.cells #[.int .i64 t310, .int .i64 t311, .int .i64 t312] 128 (0, 0))) ∧ (w'.heap[g5]? = some (.cells #[.int .i64 t313, .int .i64 t314, .int .i64 t315] 128 (0, 0))) ∧ (w'.heap[g6]? = some (.cells #[.int .i64 t316, .int .i64 t317, .int .i64 t318] 128 (0, 0))) ∧ (w'.heap[g7]? = some (.cells #[.int .i64 t323, .int .i64 t324, .int .i64 t325] 128 (0, 0))) ∧ (Below w.heap.size w w')) ?_ ?_
       rotate_left
       ·intro hJ2_4_7_9
        refine join_ (σ := Value) 5 (bl 23 2084351) (fun s_ => [(27, .agg #[.int .i64 t327, .int .i64 t328, .int .i64 t329]), (29, .int .i64 t330), (32, .agg #[.int .i64 t331, .int .i64 t332, .int .i64 t333]), (45, s_)]) (fun s_ w' => (w'.cell? ⟨g5, 0, none⟩ = some (.int .i64 t313) ∧ w'.cell? ⟨g5, 1, none⟩ = some (.int .i64 t314) ∧ w'.cell? ⟨g5, 2, none⟩ = some (.int .i64 t315) ∧ w'.cell? ⟨g6, 0, none⟩ = some (.int .i64 t316) ∧ w'.cell? ⟨g6, 1, none⟩ = some (.int .i64 t317) ∧ w'.cell? ⟨g6, 2, none⟩ = some (.int .i64 t318) ∧ w'.cell? ⟨g7, 0, none⟩ = some (.int .i64 t323) ∧ w'.cell? ⟨g7, 1, none⟩ = some (.int .i64 t324) ∧ w'.cell? ⟨g7, 2, none⟩ = some (.int .i64 t325) ∧ w'.cell? ⟨g4, 0, none⟩ = some (.int .i64 t310) ∧ w'.cell? ⟨g4, 1, none⟩ = some (.int .i64 t311) ∧ w'.cell? ⟨g4, 2, none⟩ = some (.int .i64 t312) ∧ w'.cell? ⟨g1, 0, none⟩ = some (.int .i64 a0_0) ∧ w'.cell? ⟨g1, 1, none⟩ = some (.int .i64 a0_1) ∧ w'.cell? ⟨g1, 2, none⟩ = some (.int .i64 a0_2) ∧ w'.cell? ⟨g1, 3, none⟩ = some (.int .i64 a0_3) ∧ w'.cell? ⟨g2, 0, none⟩ = some (.int .i64 a1_0) ∧ w'.cell? ⟨g2, 1, none⟩ = some (.int .i64 a1_1) ∧ w'.cell? ⟨g2, 2, none⟩ = some (.int .i64 a1_2) ∧ w'.cell? ⟨g2, 3, none⟩ = some (.int .i64 a1_3) ∧ w'.cell? ⟨g3, 0, none⟩ = some (.int .i64 a2_0) ∧ w'.cell? ⟨g3, 1, none⟩ = some (.int .i64 a2_1) ∧ w'.cell? ⟨g3, 2, none⟩ = some (.int .i64 a2_2) ∧ w'.cell? ⟨g3, 3, none⟩ = some (.int .i64 a2_3)) ∧ (Kd.R (Kd.int .i64) 3 w' w.heap.size (fun _ => True) s_ y339) ∧ (w'.heap[g1]? = some (.cells #[.int .i64 a0_0, .int .i64 a0_1, .int .i64 a0_2, .int .i64 a0_3] 23 (0, 0))) ∧ (w'.heap[g2]? = some (.cells #[.int .i64 a1_0, .int .i64 a1_1, .int .i64 a1_2, .int .i64 a1_3] 23 (0, 0))) ∧ (w'.heap[g3]? = some (.cells #[.int .i64 a2_0, .int .i64 a2_1, .int .i64 a2_2, .int .i64 a2_3] 23 (0, 0))) ∧ (w'.heap[g4]? = some (.cells #[.int .i64 t310, .int .i64 t311, .int .i64 t312] 128 (0, 0))) ∧ (w'.heap[g5]? = some (.cells #[.int .i64 t313, .int .i64 t314, .int .i64 t315] 128 (0, 0))) ∧ (w'.heap[g6]? = some (.cells #[.int .i64 t316, .int .i64 t317, .int .i64 t318] 128 (0, 0))) ∧ (w'.heap[g7]? = some (.cells #[.int .i64 t323, .int .i64 t324, .int .i64 t325] 128 (0, 0))) ∧ (Below w.heap.size w w')) ?_ ?_
        rotate_left
        ·intro hJ2_4_7_20
         refine join_ (σ := Unit) 6 (bl 23 1035775) (fun s_ => [(27, .agg #[.int .i64 t327, .int .i64 t328, .int .i64 t329]), (29, .int .i64 t330), (32, .agg #[.int .i64 t331, .int .i64 t332, .int .i64 t333])]) (fun s_ w' => (w'.cell? ⟨g5, 0, none⟩ = some (.int .i64 t313) ∧ w'.cell? ⟨g5, 1, none⟩ = some (.int .i64 t314) ∧ w'.cell? ⟨g5, 2, none⟩ = some (.int .i64 t315) ∧ w'.cell? ⟨g6, 0, none⟩ = some (.int .i64 t316) ∧ w'.cell? ⟨g6, 1, none⟩ = some (.int .i64 t317) ∧ w'.cell? ⟨g6, 2, none⟩ = some (.int .i64 t318) ∧ w'.cell? ⟨g7, 0, none⟩ = some (.int .i64 t323) ∧ w'.cell? ⟨g7, 1, none⟩ = some (.int .i64 t324) ∧ w'.cell? ⟨g7, 2, none⟩ = some (.int .i64 t325) ∧ w'.cell? ⟨g4, 0, none⟩ = some (.int .i64 t310) ∧ w'.cell? ⟨g4, 1, none⟩ = some (.int .i64 t311) ∧ w'.cell? ⟨g4, 2, none⟩ = some (.int .i64 t312) ∧ w'.cell? ⟨g1, 0, none⟩ = some (.int .i64 a0_0) ∧ w'.cell? ⟨g1, 1, none⟩ = some (.int .i64 a0_1) ∧ w'.cell? ⟨g1, 2, none⟩ = some (.int .i64 a0_2) ∧ w'.cell? ⟨g1, 3, none⟩ = some (.int .i64 a0_3) ∧ w'.cell? ⟨g2, 0, none⟩ = some (.int .i64 a1_0) ∧ w'.cell? ⟨g2, 1, none⟩ = some (.int .i64 a1_1) ∧ w'.cell? ⟨g2, 2, none⟩ = some (.int .i64 a1_2) ∧ w'.cell? ⟨g2, 3, none⟩ = some (.int .i64 a1_3) ∧ w'.cell? ⟨g3, 0, none⟩ = some (.int .i64 a2_0) ∧ w'.cell? ⟨g3, 1, none⟩ = some (.int .i64 a2_1) ∧ w'.cell? ⟨g3, 2, none⟩ = some (.int .i64 a2_2) ∧ w'.cell? ⟨g3, 3, none⟩ = some (.int .i64 a2_3)) ∧ (w'.heap[g1]? = some (.cells #[.int .i64 a0_0, .int .i64 a0_1, .int .i64 a0_2, .int .i64 a0_3] 23 (0, 0))) ∧ (w'.heap[g2]? = some (.cells #[.int .i64 a1_0, .int .i64 a1_1, .int .i64 a1_2, .int .i64 a1_3] 23 (0, 0))) ∧ (w'.heap[g3]? = some (.cells #[.int .i64 a2_0, .int .i64 a2_1, .int .i64 a2_2, .int .i64 a2_3] 23 (0, 0))) ∧ (w'.heap[g4]? = some (.cells #[.int .i64 t310, .int .i64 t311, .int .i64 t312] 128 (0, 0))) ∧ (w'.heap[g5]? = some (.cells #[.int .i64 t313, .int .i64 t314, .int .i64 t315] 128 (0, 0))) ∧ (w'.heap[g6]? = some (.cells #[.int .i64 t316, .int .i64 t317, .int .i64 t318] 128 (0, 0))) ∧ (w'.heap[g7]? = some (.cells #[.int .i64 t323, .int .i64 t324, .int .i64 t325] 128 (0, 0))) ∧ (Below w.heap.size w w')) ?_ ?_
         rotate_left
         ·intro hJ2_4_7
          refine join_ (σ := Value) 6 (bl 23 2084223) (fun s_ => [(27, .agg #[.int .i64 t327, .int .i64 t328, .int .i64 t329]), (29, .int .i64 t330), (45, s_)]) (fun s_ w' => (w'.cell? ⟨g5, 0, none⟩ = some (.int .i64 t313) ∧ w'.cell? ⟨g5, 1, none⟩ = some (.int .i64 t314) ∧ w'.cell? ⟨g5, 2, none⟩ = some (.int .i64 t315) ∧ w'.cell? ⟨g6, 0, none⟩ = some (.int .i64 t316) ∧ w'.cell? ⟨g6, 1, none⟩ = some (.int .i64 t317) ∧ w'.cell? ⟨g6, 2, none⟩ = some (.int .i64 t318) ∧ w'.cell? ⟨g7, 0, none⟩ = some (.int .i64 t323) ∧ w'.cell? ⟨g7, 1, none⟩ = some (.int .i64 t324) ∧ w'.cell? ⟨g7, 2, none⟩ = some (.int .i64 t325) ∧ w'.cell? ⟨g4, 0, none⟩ = some (.int .i64 t310) ∧ w'.cell? ⟨g4, 1, none⟩ = some (.int .i64 t311) ∧ w'.cell? ⟨g4, 2, none⟩ = some (.int .i64 t312) ∧ w'.cell? ⟨g1, 0, none⟩ = some (.int .i64 a0_0) ∧ w'.cell? ⟨g1, 1, none⟩ = some (.int .i64 a0_1) ∧ w'.cell? ⟨g1, 2, none⟩ = some (.int .i64 a0_2) ∧ w'.cell? ⟨g1, 3, none⟩ = some (.int .i64 a0_3) ∧ w'.cell? ⟨g2, 0, none⟩ = some (.int .i64 a1_0) ∧ w'.cell? ⟨g2, 1, none⟩ = some (.int .i64 a1_1) ∧ w'.cell? ⟨g2, 2, none⟩ = some (.int .i64 a1_2) ∧ w'.cell? ⟨g2, 3, none⟩ = some (.int .i64 a1_3) ∧ w'.cell? ⟨g3, 0, none⟩ = some (.int .i64 a2_0) ∧ w'.cell? ⟨g3, 1, none⟩ = some (.int .i64 a2_1) ∧ w'.cell? ⟨g3, 2, none⟩ = some (.int .i64 a2_2) ∧ w'.cell? ⟨g3, 3, none⟩ = some (.int .i64 a2_3)) ∧ (Kd.R (Kd.int .i64) 3 w' w.heap.size (fun _ => True) s_ y339) ∧ (w'.heap[g1]? = some (.cells #[.int .i64 a0_0, .int .i64 a0_1, .int .i64 a0_2, .int .i64 a0_3] 23 (0, 0))) ∧ (w'.heap[g2]? = some (.cells #[.int .i64 a1_0, .int .i64 a1_1, .int .i64 a1_2, .int .i64 a1_3] 23 (0, 0))) ∧ (w'.heap[g3]? = some (.cells #[.int .i64 a2_0, .int .i64 a2_1, .int .i64 a2_2, .int .i64 a2_3] 23 (0, 0))) ∧ (w'.heap[g4]? = some (.cells #[.int .i64 t310, .int .i64 t311, .int .i64 t312] 128 (0, 0))) ∧ (w'.heap[g5]? = some (.cells #[.int .i64 t313, .int .i64 t314, .int .i64 t315] 128 (0, 0))) ∧ (w'.heap[g6]? = some (.cells #[.int .i64 t316, .int .i64 t317, .int .i64 t318] 128 (0, 0))) ∧ (w'.heap[g7]? = some (.cells #[.int .i64 t323, .int .i64 t324, .int .i64 t325] 128 (0, 0))) ∧ (Below w.heap.size w w')) ?_ ?_
          rotate_left
          ·intro hJ2_4_20
           refine join_ (σ := Unit) 7 (bl 23 1035647) (fun s_ => [(27, .agg #[.int .i64 t327, .int .i64 t328, .int .i64 t329]), (29, .int .i64 t330)]) (fun s_ w' => (w'.cell? ⟨g5, 0, none⟩ = some (.int .i64 t313) ∧ w'.cell? ⟨g5, 1, none⟩ = some (.int .i64 t314) ∧ w'.cell? ⟨g5, 2, none⟩ = some (.int .i64 t315) ∧ w'.cell? ⟨g6, 0, none⟩ = some (.int .i64 t316) ∧ w'.cell? ⟨g6, 1, none⟩ = some (.int .i64 t317) ∧ w'.cell? ⟨g6, 2, none⟩ = some (.int .i64 t318) ∧ w'.cell? ⟨g7, 0, none⟩ = some (.int .i64 t323) ∧ w'.cell? ⟨g7, 1, none⟩ = some (.int .i64 t324) ∧ w'.cell? ⟨g7, 2, none⟩ = some (.int .i64 t325) ∧ w'.cell? ⟨g4, 0, none⟩ = some (.int .i64 t310) ∧ w'.cell? ⟨g4, 1, none⟩ = some (.int .i64 t311) ∧ w'.cell? ⟨g4, 2, none⟩ = some (.int .i64 t312) ∧ w'.cell? ⟨g1, 0, none⟩ = some (.int .i64 a0_0) ∧ w'.cell? ⟨g1, 1, none⟩ = some (.int .i64 a0_1) ∧ w'.cell? ⟨g1, 2, none⟩ = some (.int .i64 a0_2) ∧ w'.cell? ⟨g1, 3, none⟩ = some (.int .i64 a0_3) ∧ w'.cell? ⟨g2, 0, none⟩ = some (.int .i64 a1_0) ∧ w'.cell? ⟨g2, 1, none⟩ = some (.int .i64 a1_1) ∧ w'.cell? ⟨g2, 2, none⟩ = some (.int .i64 a1_2) ∧ w'.cell? ⟨g2, 3, none⟩ = some (.int .i64 a1_3) ∧ w'.cell? ⟨g3, 0, none⟩ = some (.int .i64 a2_0) ∧ w'.cell? ⟨g3, 1, none⟩ = some (.int .i64 a2_1) ∧ w'.cell? ⟨g3, 2, none⟩ = some (.int .i64 a2_2) ∧ w'.cell? ⟨g3, 3, none⟩ = some (.int .i64 a2_3)) ∧ (w'.heap[g1]? = some (.cells #[.int .i64 a0_0, .int .i64 a0_1, .int .i64 a0_2, .int .i64 a0_3] 23 (0, 0))) ∧ (w'.heap[g2]? = some (.cells #[.int .i64 a1_0, .int .i64 a1_1, .int .i64 a1_2, .int .i64 a1_3] 23 (0, 0))) ∧ (w'.heap[g3]? = some (.cells #[.int .i64 a2_0, .int .i64 a2_1, .int .i64 a2_2, .int .i64 a2_3] 23 (0, 0))) ∧ (w'.heap[g4]? = some (.cells #[.int .i64 t310, .int .i64 t311, .int .i64 t312] 128 (0, 0))) ∧ (w'.heap[g5]? = some (.cells #[.int .i64 t313, .int .i64 t314, .int .i64 t315] 128 (0, 0))) ∧ (w'.heap[g6]? = some (.cells #[.int .i64 t316, .int .i64 t317, .int .i64 t318] 128 (0, 0))) ∧ (w'.heap[g7]? = some (.cells #[.int .i64 t323, .int .i64 t324, .int .i64 t325] 128 (0, 0))) ∧ (Below w.heap.size w w')) ?_ ?_
           rotate_left
           ·intro hJ2_4
            refine join_ (σ := Value) 7 (bl 23 2084207) (fun s_ => [(27, .agg #[.int .i64 t327, .int .i64 t328, .int .i64 t329]), (45, s_)]) (fun s_ w' => (w'.cell? ⟨g5, 0, none⟩ = some (.int .i64 t313) ∧ w'.cell? ⟨g5, 1, none⟩ = some (.int .i64 t314) ∧ w'.cell? ⟨g5, 2, none⟩ = some (.int .i64 t315) ∧ w'.cell? ⟨g6, 0, none⟩ = some (.int .i64 t316) ∧ w'.cell? ⟨g6, 1, none⟩ = some (.int .i64 t317) ∧ w'.cell? ⟨g6, 2, none⟩ = some (.int .i64 t318) ∧ w'.cell? ⟨g7, 0, none⟩ = some (.int .i64 t323) ∧ w'.cell? ⟨g7, 1, none⟩ = some (.int .i64 t324) ∧ w'.cell? ⟨g7, 2, none⟩ = some (.int .i64 t325) ∧ w'.cell? ⟨g4, 0, none⟩ = some (.int .i64 t310) ∧ w'.cell? ⟨g4, 1, none⟩ = some (.int .i64 t311) ∧ w'.cell? ⟨g4, 2, none⟩ = some (.int .i64 t312) ∧ w'.cell? ⟨g1, 0, none⟩ = some (.int .i64 a0_0) ∧ w'.cell? ⟨g1, 1, none⟩ = some (.int .i64 a0_1) ∧ w'.cell? ⟨g1, 2, none⟩ = some (.int .i64 a0_2) ∧ w'.cell? ⟨g1, 3, none⟩ = some (.int .i64 a0_3) ∧ w'.cell? ⟨g2, 0, none⟩ = some (.int .i64 a1_0) ∧ w'.cell? ⟨g2, 1, none⟩ = some (.int .i64 a1_1) ∧ w'.cell? ⟨g2, 2, none⟩ = some (.int .i64 a1_2) ∧ w'.cell? ⟨g2, 3, none⟩ = some (.int .i64 a1_3) ∧ w'.cell? ⟨g3, 0, none⟩ = some (.int .i64 a2_0) ∧ w'.cell? ⟨g3, 1, none⟩ = some (.int .i64 a2_1) ∧ w'.cell? ⟨g3, 2, none⟩ = some (.int .i64 a2_2) ∧ w'.cell? ⟨g3, 3, none⟩ = some (.int .i64 a2_3)) ∧ (Kd.R (Kd.int .i64) 3 w' w.heap.size (fun _ => True) s_ y339) ∧ (w'.heap[g1]? = some (.cells #[.int .i64 a0_0, .int .i64 a0_1, .int .i64 a0_2, .int .i64 a0_3] 23 (0, 0))) ∧ (w'.heap[g2]? = some (.cells #[.int .i64 a1_0, .int .i64 a1_1, .int .i64 a1_2, .int .i64 a1_3] 23 (0, 0))) ∧ (w'.heap[g3]? = some (.cells #[.int .i64 a2_0, .int .i64 a2_1, .int .i64 a2_2, .int .i64 a2_3] 23 (0, 0))) ∧ (w'.heap[g4]? = some (.cells #[.int .i64 t310, .int .i64 t311, .int .i64 t312] 128 (0, 0))) ∧ (w'.heap[g5]? = some (.cells #[.int .i64 t313, .int .i64 t314, .int .i64 t315] 128 (0, 0))) ∧ (w'.heap[g6]? = some (.cells #[.int .i64 t316, .int .i64 t317, .int .i64 t318] 128 (0, 0))) ∧ (w'.heap[g7]? = some (.cells #[.int .i64 t323, .int .i64 t324, .int .i64 t325] 128 (0, 0))) ∧ (Below w.heap.size w w')) ?_ ?_
            rotate_left
            ·intro hJ2_20
             refine join_ (σ := Unit) 8 (bl 23 1035631) (fun s_ => [(27, .agg #[.int .i64 t327, .int .i64 t328, .int .i64 t329])]) (fun s_ w' => (w'.cell? ⟨g5, 0, none⟩ = some (.int .i64 t313) ∧ w'.cell? ⟨g5, 1, none⟩ = some (.int .i64 t314) ∧ w'.cell? ⟨g5, 2, none⟩ = some (.int .i64 t315) ∧ w'.cell? ⟨g6, 0, none⟩ = some (.int .i64 t316) ∧ w'.cell? ⟨g6, 1, none⟩ = some (.int .i64 t317) ∧ w'.cell? ⟨g6, 2, none⟩ = some (.int .i64 t318) ∧ w'.cell? ⟨g7, 0, none⟩ = some (.int .i64 t323) ∧ w'.cell? ⟨g7, 1, none⟩ = some (.int .i64 t324) ∧ w'.cell? ⟨g7, 2, none⟩ = some (.int .i64 t325) ∧ w'.cell? ⟨g4, 0, none⟩ = some (.int .i64 t310) ∧ w'.cell? ⟨g4, 1, none⟩ = some (.int .i64 t311) ∧ w'.cell? ⟨g4, 2, none⟩ = some (.int .i64 t312) ∧ w'.cell? ⟨g1, 0, none⟩ = some (.int .i64 a0_0) ∧ w'.cell? ⟨g1, 1, none⟩ = some (.int .i64 a0_1) ∧ w'.cell? ⟨g1, 2, none⟩ = some (.int .i64 a0_2) ∧ w'.cell? ⟨g1, 3, none⟩ = some (.int .i64 a0_3) ∧ w'.cell? ⟨g2, 0, none⟩ = some (.int .i64 a1_0) ∧ w'.cell? ⟨g2, 1, none⟩ = some (.int .i64 a1_1) ∧ w'.cell? ⟨g2, 2, none⟩ = some (.int .i64 a1_2) ∧ w'.cell? ⟨g2, 3, none⟩ = some (.int .i64 a1_3) ∧ w'.cell? ⟨g3, 0, none⟩ = some (.int .i64 a2_0) ∧ w'.cell? ⟨g3, 1, none⟩ = some (.int .i64 a2_1) ∧ w'.cell? ⟨g3, 2, none⟩ = some (.int .i64 a2_2) ∧ w'.cell? ⟨g3, 3, none⟩ = some (.int .i64 a2_3)) ∧ (w'.heap[g1]? = some (.cells #[.int .i64 a0_0, .int .i64 a0_1, .int .i64 a0_2, .int .i64 a0_3] 23 (0, 0))) ∧ (w'.heap[g2]? = some (.cells #[.int .i64 a1_0, .int .i64 a1_1, .int .i64 a1_2, .int .i64 a1_3] 23 (0, 0))) ∧ (w'.heap[g3]? = some (.cells #[.int .i64 a2_0, .int .i64 a2_1, .int .i64 a2_2, .int .i64 a2_3] 23 (0, 0))) ∧ (w'.heap[g4]? = some (.cells #[.int .i64 t310, .int .i64 t311, .int .i64 t312] 128 (0, 0))) ∧ (w'.heap[g5]? = some (.cells #[.int .i64 t313, .int .i64 t314, .int .i64 t315] 128 (0, 0))) ∧ (w'.heap[g6]? = some (.cells #[.int .i64 t316, .int .i64 t317, .int .i64 t318] 128 (0, 0))) ∧ (w'.heap[g7]? = some (.cells #[.int .i64 t323, .int .i64 t324, .int .i64 t325] 128 (0, 0))) ∧ (Below w.heap.size w w')) ?_ ?_
             rotate_left
             ·intro hJ2
              refine join_ (σ := Value) 8 (bl 23 2084203) (fun s_ => [(45, s_)]) (fun s_ w' => (w'.cell? ⟨g5, 0, none⟩ = some (.int .i64 t313) ∧ w'.cell? ⟨g5, 1, none⟩ = some (.int .i64 t314) ∧ w'.cell? ⟨g5, 2, none⟩ = some (.int .i64 t315) ∧ w'.cell? ⟨g6, 0, none⟩ = some (.int .i64 t316) ∧ w'.cell? ⟨g6, 1, none⟩ = some (.int .i64 t317) ∧ w'.cell? ⟨g6, 2, none⟩ = some (.int .i64 t318) ∧ w'.cell? ⟨g7, 0, none⟩ = some (.int .i64 t323) ∧ w'.cell? ⟨g7, 1, none⟩ = some (.int .i64 t324) ∧ w'.cell? ⟨g7, 2, none⟩ = some (.int .i64 t325) ∧ w'.cell? ⟨g4, 0, none⟩ = some (.int .i64 t310) ∧ w'.cell? ⟨g4, 1, none⟩ = some (.int .i64 t311) ∧ w'.cell? ⟨g4, 2, none⟩ = some (.int .i64 t312) ∧ w'.cell? ⟨g1, 0, none⟩ = some (.int .i64 a0_0) ∧ w'.cell? ⟨g1, 1, none⟩ = some (.int .i64 a0_1) ∧ w'.cell? ⟨g1, 2, none⟩ = some (.int .i64 a0_2) ∧ w'.cell? ⟨g1, 3, none⟩ = some (.int .i64 a0_3) ∧ w'.cell? ⟨g2, 0, none⟩ = some (.int .i64 a1_0) ∧ w'.cell? ⟨g2, 1, none⟩ = some (.int .i64 a1_1) ∧ w'.cell? ⟨g2, 2, none⟩ = some (.int .i64 a1_2) ∧ w'.cell? ⟨g2, 3, none⟩ = some (.int .i64 a1_3) ∧ w'.cell? ⟨g3, 0, none⟩ = some (.int .i64 a2_0) ∧ w'.cell? ⟨g3, 1, none⟩ = some (.int .i64 a2_1) ∧ w'.cell? ⟨g3, 2, none⟩ = some (.int .i64 a2_2) ∧ w'.cell? ⟨g3, 3, none⟩ = some (.int .i64 a2_3)) ∧ (Kd.R (Kd.int .i64) 3 w' w.heap.size (fun _ => True) s_ y339) ∧ (w'.heap[g1]? = some (.cells #[.int .i64 a0_0, .int .i64 a0_1, .int .i64 a0_2, .int .i64 a0_3] 23 (0, 0))) ∧ (w'.heap[g2]? = some (.cells #[.int .i64 a1_0, .int .i64 a1_1, .int .i64 a1_2, .int .i64 a1_3] 23 (0, 0))) ∧ (w'.heap[g3]? = some (.cells #[.int .i64 a2_0, .int .i64 a2_1, .int .i64 a2_2, .int .i64 a2_3] 23 (0, 0))) ∧ (w'.heap[g4]? = some (.cells #[.int .i64 t310, .int .i64 t311, .int .i64 t312] 128 (0, 0))) ∧ (w'.heap[g5]? = some (.cells #[.int .i64 t313, .int .i64 t314, .int .i64 t315] 128 (0, 0))) ∧ (w'.heap[g6]? = some (.cells #[.int .i64 t316, .int .i64 t317, .int .i64 t318] 128 (0, 0))) ∧ (w'.heap[g7]? = some (.cells #[.int .i64 t323, .int .i64 t324, .int .i64 t325] 128 (0, 0))) ∧ (Below w.heap.size w w')) ?_ ?_
              rotate_left
              ·intro hJ20
               refine two_ (i := 2) (j := 20) (Ni := some 27) (Nj := some 45) (bl 23 1035631) (bl 23 2084203) rfl rfl rfl rfl (two_of HT_.out (by kernel_rfl)) (by decide) (by decide) (fun K hK => ?_) (fun K hK => ?_)
               ·skip
                refine gO Try.func148 #[.agg #[.int .i64 t313, .int .i64 t314, .int .i64 t315], .agg #[.int .i64 t316, .int .i64 t317, .int .i64 t318]] ?_
                with_reducible refine (impl_crossOf.calls t313 t314 t315 t316 t317 t318 t327 t328 t329 _ A10.out).mono ?_
                rintro e w65 ⟨rfl, hb⟩
                refine ⟨_, rfl, ?_⟩
                replace bK1 := kb bK1 hb
                replace bK2 := kb bK2 hb
                replace bK3 := kb bK3 hb
                replace bK4 := kb bK4 hb
                replace bK5 := kb bK5 hb
                replace bK6 := kb bK6 hb
                replace bK7 := kb bK7 hb
                replace HB := bt HB hb
                (try clear hb)
                (try clear hb2)
                (try clear hk)
                (try clear hi)
                refine ko hK (fun hHeld => ?_)
                clear hK K
                refine nm 27 ?_
                exact norm_ (by first | (simp only [putAll, Act.put, List.setIfInBounds_toArray, List.set_cons_zero, List.set_cons_succ]; done) | (simp only [putAll, Act.put, List.setIfInBounds_toArray, List.set_cons_zero, List.set_cons_succ]; rfl)) (hJ2 () _ ⟨hHeld, (kbx bK1), (kbx bK2), (kbx bK3), (kbx bK4), (kbx bK5), (kbx bK6), (kbx bK7), (hbx HB)⟩)
               skip
               refine Kd.R_lit_step (Kd.int .i64) _ 3 ?hg (N := 45) ?hd (xs := ([a0_3, a1_3, a2_3] : List Int)) (inner := [.int .i64 a0_3, .int .i64 a1_3, .int .i64 a2_3]) (ok := fun _ => True) (okp := fun _ => True) ?hr ?hp (fun _ hk => hk) trivial (Below.refl _ _) (Nat.le_refl _) (by simp) ?_; (case hd => rfl); (case hg => rfl); (case hr => first | (go_simp; done) | (go_simp; rfl)); (case hp => exact (Reps.one (show Kd.M (Kd.int .i64) _ _ _ a0_3 [.int .i64 a0_3] from rfl) (Reps.one (show Kd.M (Kd.int .i64) _ _ _ a1_3 [.int .i64 a1_3] from rfl) (Reps.one (show Kd.M (Kd.int .i64) _ _ _ a2_3 [.int .i64 a2_3] from rfl) (Reps.none _ _)))))
               intro v340 w65 ho66 hb hg_ hnew_
               clear hg_ hnew_
               (first | rw [← Ny339.out] at ho66 | (simp only [Int.reduceToNat] at ho66; rw [← Ny339.out] at ho66))
               have HO341 := Aside0.mk (Kd.R_lower ho66 (below_size (hbx HB)))
               replace bK1 := kb bK1 hb
               replace bK2 := kb bK2 hb
               replace bK3 := kb bK3 hb
               replace bK4 := kb bK4 hb
               replace bK5 := kb bK5 hb
               replace bK6 := kb bK6 hb
               replace bK7 := kb bK7 hb
               replace HB := bt HB hb
               clear hb ho66
               refine ko hK (fun hHeld => ?_)
               clear hK K
               refine nm 45 ?_
               exact norm_ (by first | (simp only [putAll, Act.put, List.setIfInBounds_toArray, List.set_cons_zero, List.set_cons_succ]; done) | (simp only [putAll, Act.put, List.setIfInBounds_toArray, List.set_cons_zero, List.set_cons_succ]; rfl)) (hJ20 (v340) _ ⟨hHeld, (by (with_reducible repeat (first | apply Kd.R_alloc | apply Kd.R_drewN | apply Kd.R_drew)); exact HO341.out), (kbx bK1), (kbx bK2), (kbx bK3), (kbx bK4), (kbx bK5), (kbx bK6), (kbx bK7), (hbx HB)⟩)
              skip
              rintro v340 w67 ⟨hS_, h0_, h1_, h2_, h3_, h4_, h5_, h6_, h7_, h8_⟩
              have HO341 := Aside0.mk h0_
              replace bK1 := Aside0.mk h1_
              replace bK2 := Aside0.mk h2_
              replace bK3 := Aside0.mk h3_
              replace bK4 := Aside0.mk h4_
              replace bK5 := Aside0.mk h5_
              replace bK6 := Aside0.mk h6_
              replace bK7 := Aside0.mk h7_
              replace HB := Aside0.mk h8_
              clear h0_ h1_ h2_ h3_ h4_ h5_ h6_ h7_ h8_
              have hHeld := hS_
              refine norm_ (a' := ?_) ?_ ?_
              rotate_left
              ·simp only [putAll, Act.put, List.setIfInBounds_toArray, List.set_cons_zero, List.set_cons_succ]
               rfl
              refine oS 2 27 2084207 (fun K hK => ?_)
              refine gO Try.func148 #[.agg #[.int .i64 t313, .int .i64 t314, .int .i64 t315], .agg #[.int .i64 t316, .int .i64 t317, .int .i64 t318]] ?_
              with_reducible refine (impl_crossOf.calls t313 t314 t315 t316 t317 t318 t327 t328 t329 _ A10.out).mono ?_
              rintro e w68 ⟨rfl, hb⟩
              refine ⟨_, rfl, ?_⟩
              replace HO341 := Aside0.mk (Kd.R_below (by (with_reducible repeat (first | apply Kd.R_alloc | apply Kd.R_drewN | apply Kd.R_drew)); exact HO341.out) hb)
              replace bK1 := kb bK1 hb
              replace bK2 := kb bK2 hb
              replace bK3 := kb bK3 hb
              replace bK4 := kb bK4 hb
              replace bK5 := kb bK5 hb
              replace bK6 := kb bK6 hb
              replace bK7 := kb bK7 hb
              replace HB := bt HB hb
              (try clear hb)
              (try clear hb2)
              (try clear hk)
              (try clear hi)
              refine ko hK (fun hHeld => ?_)
              clear hK K
              refine nm 27 ?_
              exact norm_ (by first | (simp only [putAll, Act.put, List.setIfInBounds_toArray, List.set_cons_zero, List.set_cons_succ]; done) | (simp only [putAll, Act.put, List.setIfInBounds_toArray, List.set_cons_zero, List.set_cons_succ]; rfl)) (hJ2_20 (v340) _ ⟨hHeld, (by (with_reducible repeat (first | apply Kd.R_alloc | apply Kd.R_drewN | apply Kd.R_drew)); exact HO341.out), (kbx bK1), (kbx bK2), (kbx bK3), (kbx bK4), (kbx bK5), (kbx bK6), (kbx bK7), (hbx HB)⟩)
             skip
             rintro _ w66 ⟨hS_, h0_, h1_, h2_, h3_, h4_, h5_, h6_, h7_⟩
             replace bK1 := Aside0.mk h0_
             replace bK2 := Aside0.mk h1_
             replace bK3 := Aside0.mk h2_
             replace bK4 := Aside0.mk h3_
             replace bK5 := Aside0.mk h4_
             replace bK6 := Aside0.mk h5_
             replace bK7 := Aside0.mk h6_
             replace HB := Aside0.mk h7_
             clear h0_ h1_ h2_ h3_ h4_ h5_ h6_ h7_
             have hHeld := hS_
             refine norm_ (a' := ?_) ?_ ?_
             rotate_left
             ·simp only [putAll, Act.put, List.setIfInBounds_toArray, List.set_cons_zero, List.set_cons_succ]
              rfl
             refine two_ (i := 4) (j := 20) (Ni := some 29) (Nj := some 45) (bl 23 1035647) (bl 23 2084207) rfl rfl rfl rfl (two_of HT_.out (by kernel_rfl)) (by decide) (by decide) (fun K hK => ?_) (fun K hK => ?_)
             ·skip
              refine gO Try.func172 #[.agg #[.int .i64 t327, .int .i64 t328, .int .i64 t329], .agg #[.int .i64 t323, .int .i64 t324, .int .i64 t325]] ?_
              with_reducible refine (impl_dot.calls t327 t328 t329 t323 t324 t325 t330 _ A11.out).mono ?_
              rintro e w67 ⟨rfl, hb⟩
              refine ⟨_, rfl, ?_⟩
              replace bK1 := kb bK1 hb
              replace bK2 := kb bK2 hb
              replace bK3 := kb bK3 hb
              replace bK4 := kb bK4 hb
              replace bK5 := kb bK5 hb
              replace bK6 := kb bK6 hb
              replace bK7 := kb bK7 hb
              replace HB := bt HB hb
              (try clear hb)
              (try clear hb2)
              (try clear hk)
              (try clear hi)
              refine ko hK (fun hHeld => ?_)
              clear hK K
              refine nm 29 ?_
              exact norm_ (by first | (simp only [putAll, Act.put, List.setIfInBounds_toArray, List.set_cons_zero, List.set_cons_succ]; done) | (simp only [putAll, Act.put, List.setIfInBounds_toArray, List.set_cons_zero, List.set_cons_succ]; rfl)) (hJ2_4 () _ ⟨hHeld, (kbx bK1), (kbx bK2), (kbx bK3), (kbx bK4), (kbx bK5), (kbx bK6), (kbx bK7), (hbx HB)⟩)
             skip
             refine Kd.R_lit_step (Kd.int .i64) _ 3 ?hg (N := 45) ?hd (xs := ([a0_3, a1_3, a2_3] : List Int)) (inner := [.int .i64 a0_3, .int .i64 a1_3, .int .i64 a2_3]) (ok := fun _ => True) (okp := fun _ => True) ?hr ?hp (fun _ hk => hk) trivial (Below.refl _ _) (Nat.le_refl _) (by simp) ?_; (case hd => rfl); (case hg => rfl); (case hr => first | (go_simp; done) | (go_simp; rfl)); (case hp => exact (Reps.one (show Kd.M (Kd.int .i64) _ _ _ a0_3 [.int .i64 a0_3] from rfl) (Reps.one (show Kd.M (Kd.int .i64) _ _ _ a1_3 [.int .i64 a1_3] from rfl) (Reps.one (show Kd.M (Kd.int .i64) _ _ _ a2_3 [.int .i64 a2_3] from rfl) (Reps.none _ _)))))
             intro v340 w67 ho68 hb hg_ hnew_
             clear hg_ hnew_
             (first | rw [← Ny339.out] at ho68 | (simp only [Int.reduceToNat] at ho68; rw [← Ny339.out] at ho68))
             have HO341 := Aside0.mk (Kd.R_lower ho68 (below_size (hbx HB)))
             replace bK1 := kb bK1 hb
             replace bK2 := kb bK2 hb
             replace bK3 := kb bK3 hb
             replace bK4 := kb bK4 hb
             replace bK5 := kb bK5 hb
             replace bK6 := kb bK6 hb
             replace bK7 := kb bK7 hb
             replace HB := bt HB hb
             clear hb ho68
             refine ko hK (fun hHeld => ?_)
             clear hK K
             refine nm 45 ?_
             exact norm_ (by first | (simp only [putAll, Act.put, List.setIfInBounds_toArray, List.set_cons_zero, List.set_cons_succ]; done) | (simp only [putAll, Act.put, List.setIfInBounds_toArray, List.set_cons_zero, List.set_cons_succ]; rfl)) (hJ2_20 (v340) _ ⟨hHeld, (by (with_reducible repeat (first | apply Kd.R_alloc | apply Kd.R_drewN | apply Kd.R_drew)); exact HO341.out), (kbx bK1), (kbx bK2), (kbx bK3), (kbx bK4), (kbx bK5), (kbx bK6), (kbx bK7), (hbx HB)⟩)
            skip
            rintro v340 w68 ⟨hS_, h0_, h1_, h2_, h3_, h4_, h5_, h6_, h7_, h8_⟩
            have HO341 := Aside0.mk h0_
            replace bK1 := Aside0.mk h1_
            replace bK2 := Aside0.mk h2_
            replace bK3 := Aside0.mk h3_
            replace bK4 := Aside0.mk h4_
            replace bK5 := Aside0.mk h5_
            replace bK6 := Aside0.mk h6_
            replace bK7 := Aside0.mk h7_
            replace HB := Aside0.mk h8_
            clear h0_ h1_ h2_ h3_ h4_ h5_ h6_ h7_ h8_
            have hHeld := hS_
            refine norm_ (a' := ?_) ?_ ?_
            rotate_left
            ·simp only [putAll, Act.put, List.setIfInBounds_toArray, List.set_cons_zero, List.set_cons_succ]
             rfl
            refine oS 4 29 2084223 (fun K hK => ?_)
            refine gO Try.func172 #[.agg #[.int .i64 t327, .int .i64 t328, .int .i64 t329], .agg #[.int .i64 t323, .int .i64 t324, .int .i64 t325]] ?_
            with_reducible refine (impl_dot.calls t327 t328 t329 t323 t324 t325 t330 _ A11.out).mono ?_
            rintro e w69 ⟨rfl, hb⟩
            refine ⟨_, rfl, ?_⟩
            replace HO341 := Aside0.mk (Kd.R_below (by (with_reducible repeat (first | apply Kd.R_alloc | apply Kd.R_drewN | apply Kd.R_drew)); exact HO341.out) hb)
            replace bK1 := kb bK1 hb
            replace bK2 := kb bK2 hb
            replace bK3 := kb bK3 hb
            replace bK4 := kb bK4 hb
            replace bK5 := kb bK5 hb
            replace bK6 := kb bK6 hb
            replace bK7 := kb bK7 hb
            replace HB := bt HB hb
            (try clear hb)
            (try clear hb2)
            (try clear hk)
            (try clear hi)
            refine ko hK (fun hHeld => ?_)
            clear hK K
            refine nm 29 ?_
            exact norm_ (by first | (simp only [putAll, Act.put, List.setIfInBounds_toArray, List.set_cons_zero, List.set_cons_succ]; done) | (simp only [putAll, Act.put, List.setIfInBounds_toArray, List.set_cons_zero, List.set_cons_succ]; rfl)) (hJ2_4_20 (v340) _ ⟨hHeld, (by (with_reducible repeat (first | apply Kd.R_alloc | apply Kd.R_drewN | apply Kd.R_drew)); exact HO341.out), (kbx bK1), (kbx bK2), (kbx bK3), (kbx bK4), (kbx bK5), (kbx bK6), (kbx bK7), (hbx HB)⟩)
           skip
           rintro _ w67 ⟨hS_, h0_, h1_, h2_, h3_, h4_, h5_, h6_, h7_⟩
           replace bK1 := Aside0.mk h0_
           replace bK2 := Aside0.mk h1_
           replace bK3 := Aside0.mk h2_
           replace bK4 := Aside0.mk h3_
           replace bK5 := Aside0.mk h4_
           replace bK6 := Aside0.mk h5_
           replace bK7 := Aside0.mk h6_
           replace HB := Aside0.mk h7_
           clear h0_ h1_ h2_ h3_ h4_ h5_ h6_ h7_
           have hHeld := hS_
           refine norm_ (a' := ?_) ?_ ?_
           rotate_left
           ·simp only [putAll, Act.put, List.setIfInBounds_toArray, List.set_cons_zero, List.set_cons_succ]
            rfl
           refine two_ (i := 7) (j := 20) (Ni := some 32) (Nj := some 45) (bl 23 1035775) (bl 23 2084223) rfl rfl rfl rfl (two_of HT_.out (by kernel_rfl)) (by decide) (by decide) (fun K hK => ?_) (fun K hK => ?_)
           ·skip
            refine gO Try.func148 #[.agg #[.int .i64 t316, .int .i64 t317, .int .i64 t318], .agg #[.int .i64 t310, .int .i64 t311, .int .i64 t312]] ?_
            with_reducible refine (impl_crossOf.calls t316 t317 t318 t310 t311 t312 t331 t332 t333 _ A12.out).mono ?_
            rintro e w68 ⟨rfl, hb⟩
            refine ⟨_, rfl, ?_⟩
            replace bK1 := kb bK1 hb
            replace bK2 := kb bK2 hb
            replace bK3 := kb bK3 hb
            replace bK4 := kb bK4 hb
            replace bK5 := kb bK5 hb
            replace bK6 := kb bK6 hb
            replace bK7 := kb bK7 hb
            replace HB := bt HB hb
            (try clear hb)
            (try clear hb2)
            (try clear hk)
            (try clear hi)
            refine ko hK (fun hHeld => ?_)
            clear hK K
            refine nm 32 ?_
            exact norm_ (by first | (simp only [putAll, Act.put, List.setIfInBounds_toArray, List.set_cons_zero, List.set_cons_succ]; done) | (simp only [putAll, Act.put, List.setIfInBounds_toArray, List.set_cons_zero, List.set_cons_succ]; rfl)) (hJ2_4_7 () _ ⟨hHeld, (kbx bK1), (kbx bK2), (kbx bK3), (kbx bK4), (kbx bK5), (kbx bK6), (kbx bK7), (hbx HB)⟩)
           skip
           refine Kd.R_lit_step (Kd.int .i64) _ 3 ?hg (N := 45) ?hd (xs := ([a0_3, a1_3, a2_3] : List Int)) (inner := [.int .i64 a0_3, .int .i64 a1_3, .int .i64 a2_3]) (ok := fun _ => True) (okp := fun _ => True) ?hr ?hp (fun _ hk => hk) trivial (Below.refl _ _) (Nat.le_refl _) (by simp) ?_; (case hd => rfl); (case hg => rfl); (case hr => first | (go_simp; done) | (go_simp; rfl)); (case hp => exact (Reps.one (show Kd.M (Kd.int .i64) _ _ _ a0_3 [.int .i64 a0_3] from rfl) (Reps.one (show Kd.M (Kd.int .i64) _ _ _ a1_3 [.int .i64 a1_3] from rfl) (Reps.one (show Kd.M (Kd.int .i64) _ _ _ a2_3 [.int .i64 a2_3] from rfl) (Reps.none _ _)))))
           intro v340 w68 ho69 hb hg_ hnew_
           clear hg_ hnew_
           (first | rw [← Ny339.out] at ho69 | (simp only [Int.reduceToNat] at ho69; rw [← Ny339.out] at ho69))
           have HO341 := Aside0.mk (Kd.R_lower ho69 (below_size (hbx HB)))
           replace bK1 := kb bK1 hb
           replace bK2 := kb bK2 hb
           replace bK3 := kb bK3 hb
           replace bK4 := kb bK4 hb
           replace bK5 := kb bK5 hb
           replace bK6 := kb bK6 hb
           replace bK7 := kb bK7 hb
           replace HB := bt HB hb
           clear hb ho69
           refine ko hK (fun hHeld => ?_)
           clear hK K
           refine nm 45 ?_
           exact norm_ (by first | (simp only [putAll, Act.put, List.setIfInBounds_toArray, List.set_cons_zero, List.set_cons_succ]; done) | (simp only [putAll, Act.put, List.setIfInBounds_toArray, List.set_cons_zero, List.set_cons_succ]; rfl)) (hJ2_4_20 (v340) _ ⟨hHeld, (by (with_reducible repeat (first | apply Kd.R_alloc | apply Kd.R_drewN | apply Kd.R_drew)); exact HO341.out), (kbx bK1), (kbx bK2), (kbx bK3), (kbx bK4), (kbx bK5), (kbx bK6), (kbx bK7), (hbx HB)⟩)
          skip
          rintro v340 w69 ⟨hS_, h0_, h1_, h2_, h3_, h4_, h5_, h6_, h7_, h8_⟩
          have HO341 := Aside0.mk h0_
          replace bK1 := Aside0.mk h1_
          replace bK2 := Aside0.mk h2_
          replace bK3 := Aside0.mk h3_
          replace bK4 := Aside0.mk h4_
          replace bK5 := Aside0.mk h5_
          replace bK6 := Aside0.mk h6_
          replace bK7 := Aside0.mk h7_
          replace HB := Aside0.mk h8_
          clear h0_ h1_ h2_ h3_ h4_ h5_ h6_ h7_ h8_
          have hHeld := hS_
          refine norm_ (a' := ?_) ?_ ?_
          rotate_left
          ·simp only [putAll, Act.put, List.setIfInBounds_toArray, List.set_cons_zero, List.set_cons_succ]
           rfl
          refine oS 7 32 2084351 (fun K hK => ?_)
          refine gO Try.func148 #[.agg #[.int .i64 t316, .int .i64 t317, .int .i64 t318], .agg #[.int .i64 t310, .int .i64 t311, .int .i64 t312]] ?_
          with_reducible refine (impl_crossOf.calls t316 t317 t318 t310 t311 t312 t331 t332 t333 _ A12.out).mono ?_
          rintro e w70 ⟨rfl, hb⟩
          refine ⟨_, rfl, ?_⟩
          replace HO341 := Aside0.mk (Kd.R_below (by (with_reducible repeat (first | apply Kd.R_alloc | apply Kd.R_drewN | apply Kd.R_drew)); exact HO341.out) hb)
          replace bK1 := kb bK1 hb
          replace bK2 := kb bK2 hb
          replace bK3 := kb bK3 hb
          replace bK4 := kb bK4 hb
          replace bK5 := kb bK5 hb
          replace bK6 := kb bK6 hb
          replace bK7 := kb bK7 hb
          replace HB := bt HB hb
          (try clear hb)
          (try clear hb2)
          (try clear hk)
          (try clear hi)
          refine ko hK (fun hHeld => ?_)
          clear hK K
          refine nm 32 ?_
          exact norm_ (by first | (simp only [putAll, Act.put, List.setIfInBounds_toArray, List.set_cons_zero, List.set_cons_succ]; done) | (simp only [putAll, Act.put, List.setIfInBounds_toArray, List.set_cons_zero, List.set_cons_succ]; rfl)) (hJ2_4_7_20 (v340) _ ⟨hHeld, (by (with_reducible repeat (first | apply Kd.R_alloc | apply Kd.R_drewN | apply Kd.R_drew)); exact HO341.out), (kbx bK1), (kbx bK2), (kbx bK3), (kbx bK4), (kbx bK5), (kbx bK6), (kbx bK7), (hbx HB)⟩)
         skip
         rintro _ w68 ⟨hS_, h0_, h1_, h2_, h3_, h4_, h5_, h6_, h7_⟩
         replace bK1 := Aside0.mk h0_
         replace bK2 := Aside0.mk h1_
         replace bK3 := Aside0.mk h2_
         replace bK4 := Aside0.mk h3_
         replace bK5 := Aside0.mk h4_
         replace bK6 := Aside0.mk h5_
         replace bK7 := Aside0.mk h6_
         replace HB := Aside0.mk h7_
         clear h0_ h1_ h2_ h3_ h4_ h5_ h6_ h7_
         have hHeld := hS_
         refine norm_ (a' := ?_) ?_ ?_
         rotate_left
         ·simp only [putAll, Act.put, List.setIfInBounds_toArray, List.set_cons_zero, List.set_cons_succ]
          rfl
         refine two_ (i := 9) (j := 20) (Ni := some 34) (Nj := some 45) (bl 23 1036287) (bl 23 2084351) rfl rfl rfl rfl (two_of HT_.out (by kernel_rfl)) (by decide) (by decide) (fun K hK => ?_) (fun K hK => ?_)
         ·skip
          refine gO Try.func172 #[.agg #[.int .i64 t331, .int .i64 t332, .int .i64 t333], .agg #[.int .i64 t323, .int .i64 t324, .int .i64 t325]] ?_
          with_reducible refine (impl_dot.calls t331 t332 t333 t323 t324 t325 t334 _ A13.out).mono ?_
          rintro e w69 ⟨rfl, hb⟩
          refine ⟨_, rfl, ?_⟩
          replace bK1 := kb bK1 hb
          replace bK2 := kb bK2 hb
          replace bK3 := kb bK3 hb
          replace bK4 := kb bK4 hb
          replace bK5 := kb bK5 hb
          replace bK6 := kb bK6 hb
          replace bK7 := kb bK7 hb
          replace HB := bt HB hb
          (try clear hb)
          (try clear hb2)
          (try clear hk)
          (try clear hi)
          refine ko hK (fun hHeld => ?_)
          clear hK K
          refine nm 34 ?_
          exact norm_ (by first | (simp only [putAll, Act.put, List.setIfInBounds_toArray, List.set_cons_zero, List.set_cons_succ]; done) | (simp only [putAll, Act.put, List.setIfInBounds_toArray, List.set_cons_zero, List.set_cons_succ]; rfl)) (hJ2_4_7_9 () _ ⟨hHeld, (kbx bK1), (kbx bK2), (kbx bK3), (kbx bK4), (kbx bK5), (kbx bK6), (kbx bK7), (hbx HB)⟩)
         skip
         refine Kd.R_lit_step (Kd.int .i64) _ 3 ?hg (N := 45) ?hd (xs := ([a0_3, a1_3, a2_3] : List Int)) (inner := [.int .i64 a0_3, .int .i64 a1_3, .int .i64 a2_3]) (ok := fun _ => True) (okp := fun _ => True) ?hr ?hp (fun _ hk => hk) trivial (Below.refl _ _) (Nat.le_refl _) (by simp) ?_; (case hd => rfl); (case hg => rfl); (case hr => first | (go_simp; done) | (go_simp; rfl)); (case hp => exact (Reps.one (show Kd.M (Kd.int .i64) _ _ _ a0_3 [.int .i64 a0_3] from rfl) (Reps.one (show Kd.M (Kd.int .i64) _ _ _ a1_3 [.int .i64 a1_3] from rfl) (Reps.one (show Kd.M (Kd.int .i64) _ _ _ a2_3 [.int .i64 a2_3] from rfl) (Reps.none _ _)))))
         intro v340 w69 ho70 hb hg_ hnew_
         clear hg_ hnew_
         (first | rw [← Ny339.out] at ho70 | (simp only [Int.reduceToNat] at ho70; rw [← Ny339.out] at ho70))
         have HO341 := Aside0.mk (Kd.R_lower ho70 (below_size (hbx HB)))
         replace bK1 := kb bK1 hb
         replace bK2 := kb bK2 hb
         replace bK3 := kb bK3 hb
         replace bK4 := kb bK4 hb
         replace bK5 := kb bK5 hb
         replace bK6 := kb bK6 hb
         replace bK7 := kb bK7 hb
         replace HB := bt HB hb
         clear hb ho70
         refine ko hK (fun hHeld => ?_)
         clear hK K
         refine nm 45 ?_
         exact norm_ (by first | (simp only [putAll, Act.put, List.setIfInBounds_toArray, List.set_cons_zero, List.set_cons_succ]; done) | (simp only [putAll, Act.put, List.setIfInBounds_toArray, List.set_cons_zero, List.set_cons_succ]; rfl)) (hJ2_4_7_20 (v340) _ ⟨hHeld, (by (with_reducible repeat (first | apply Kd.R_alloc | apply Kd.R_drewN | apply Kd.R_drew)); exact HO341.out), (kbx bK1), (kbx bK2), (kbx bK3), (kbx bK4), (kbx bK5), (kbx bK6), (kbx bK7), (hbx HB)⟩)
        skip
        rintro v340 w70 ⟨hS_, h0_, h1_, h2_, h3_, h4_, h5_, h6_, h7_, h8_⟩
        have HO341 := Aside0.mk h0_
        replace bK1 := Aside0.mk h1_
        replace bK2 := Aside0.mk h2_
        replace bK3 := Aside0.mk h3_
        replace bK4 := Aside0.mk h4_
        replace bK5 := Aside0.mk h5_
        replace bK6 := Aside0.mk h6_
        replace bK7 := Aside0.mk h7_
        replace HB := Aside0.mk h8_
        clear h0_ h1_ h2_ h3_ h4_ h5_ h6_ h7_ h8_
        have hHeld := hS_
        refine norm_ (a' := ?_) ?_ ?_
        rotate_left
        ·simp only [putAll, Act.put, List.setIfInBounds_toArray, List.set_cons_zero, List.set_cons_succ]
         rfl
        refine oS 9 34 2084863 (fun K hK => ?_)
        refine gO Try.func172 #[.agg #[.int .i64 t331, .int .i64 t332, .int .i64 t333], .agg #[.int .i64 t323, .int .i64 t324, .int .i64 t325]] ?_
        with_reducible refine (impl_dot.calls t331 t332 t333 t323 t324 t325 t334 _ A13.out).mono ?_
        rintro e w71 ⟨rfl, hb⟩
        refine ⟨_, rfl, ?_⟩
        replace HO341 := Aside0.mk (Kd.R_below (by (with_reducible repeat (first | apply Kd.R_alloc | apply Kd.R_drewN | apply Kd.R_drew)); exact HO341.out) hb)
        replace bK1 := kb bK1 hb
        replace bK2 := kb bK2 hb
        replace bK3 := kb bK3 hb
        replace bK4 := kb bK4 hb
        replace bK5 := kb bK5 hb
        replace bK6 := kb bK6 hb
        replace bK7 := kb bK7 hb
        replace HB := bt HB hb
        (try clear hb)
        (try clear hb2)
        (try clear hk)
        (try clear hi)
        refine ko hK (fun hHeld => ?_)
        clear hK K
        refine nm 34 ?_
        exact norm_ (by first | (simp only [putAll, Act.put, List.setIfInBounds_toArray, List.set_cons_zero, List.set_cons_succ]; done) | (simp only [putAll, Act.put, List.setIfInBounds_toArray, List.set_cons_zero, List.set_cons_succ]; rfl)) (hJ2_4_7_9_20 (v340) _ ⟨hHeld, (by (with_reducible repeat (first | apply Kd.R_alloc | apply Kd.R_drewN | apply Kd.R_drew)); exact HO341.out), (kbx bK1), (kbx bK2), (kbx bK3), (kbx bK4), (kbx bK5), (kbx bK6), (kbx bK7), (hbx HB)⟩)
       skip
       rintro _ w69 ⟨hS_, h0_, h1_, h2_, h3_, h4_, h5_, h6_, h7_⟩
       replace bK1 := Aside0.mk h0_
       replace bK2 := Aside0.mk h1_
       replace bK3 := Aside0.mk h2_
       replace bK4 := Aside0.mk h3_
       replace bK5 := Aside0.mk h4_
       replace bK6 := Aside0.mk h5_
       replace bK7 := Aside0.mk h6_
       replace HB := Aside0.mk h7_
       clear h0_ h1_ h2_ h3_ h4_ h5_ h6_ h7_
       have hHeld := hS_
       refine norm_ (a' := ?_) ?_ ?_
       rotate_left
       ·simp only [putAll, Act.put, List.setIfInBounds_toArray, List.set_cons_zero, List.set_cons_succ]
        rfl
       refine two_ (i := 12) (j := 20) (Ni := some 37) (Nj := some 45) (bl 23 1040383) (bl 23 2084863) rfl rfl rfl rfl (two_of HT_.out (by kernel_rfl)) (by decide) (by decide) (fun K hK => ?_) (fun K hK => ?_)
       ·skip
        refine gO Try.func172 #[.agg #[.int .i64 t323, .int .i64 t324, .int .i64 t325], .agg #[.int .i64 t323, .int .i64 t324, .int .i64 t325]] ?_
        with_reducible refine (impl_dot.calls t323 t324 t325 t323 t324 t325 t335 _ A14.out).mono ?_
        rintro e w70 ⟨rfl, hb⟩
        refine ⟨_, rfl, ?_⟩
        replace bK1 := kb bK1 hb
        replace bK2 := kb bK2 hb
        replace bK3 := kb bK3 hb
        replace bK4 := kb bK4 hb
        replace bK5 := kb bK5 hb
        replace bK6 := kb bK6 hb
        replace bK7 := kb bK7 hb
        replace HB := bt HB hb
        (try clear hb)
        (try clear hb2)
        (try clear hk)
        (try clear hi)
        refine ko hK (fun hHeld => ?_)
        clear hK K
        refine nm 37 ?_
        exact norm_ (by first | (simp only [putAll, Act.put, List.setIfInBounds_toArray, List.set_cons_zero, List.set_cons_succ]; done) | (simp only [putAll, Act.put, List.setIfInBounds_toArray, List.set_cons_zero, List.set_cons_succ]; rfl)) (hJ2_4_7_9_12 () _ ⟨hHeld, (kbx bK1), (kbx bK2), (kbx bK3), (kbx bK4), (kbx bK5), (kbx bK6), (kbx bK7), (hbx HB)⟩)
       skip
       refine Kd.R_lit_step (Kd.int .i64) _ 3 ?hg (N := 45) ?hd (xs := ([a0_3, a1_3, a2_3] : List Int)) (inner := [.int .i64 a0_3, .int .i64 a1_3, .int .i64 a2_3]) (ok := fun _ => True) (okp := fun _ => True) ?hr ?hp (fun _ hk => hk) trivial (Below.refl _ _) (Nat.le_refl _) (by simp) ?_; (case hd => rfl); (case hg => rfl); (case hr => first | (go_simp; done) | (go_simp; rfl)); (case hp => exact (Reps.one (show Kd.M (Kd.int .i64) _ _ _ a0_3 [.int .i64 a0_3] from rfl) (Reps.one (show Kd.M (Kd.int .i64) _ _ _ a1_3 [.int .i64 a1_3] from rfl) (Reps.one (show Kd.M (Kd.int .i64) _ _ _ a2_3 [.int .i64 a2_3] from rfl) (Reps.none _ _)))))
       intro v340 w70 ho71 hb hg_ hnew_
       clear hg_ hnew_
       (first | rw [← Ny339.out] at ho71 | (simp only [Int.reduceToNat] at ho71; rw [← Ny339.out] at ho71))
       have HO341 := Aside0.mk (Kd.R_lower ho71 (below_size (hbx HB)))
       replace bK1 := kb bK1 hb
       replace bK2 := kb bK2 hb
       replace bK3 := kb bK3 hb
       replace bK4 := kb bK4 hb
       replace bK5 := kb bK5 hb
       replace bK6 := kb bK6 hb
       replace bK7 := kb bK7 hb
       replace HB := bt HB hb
       clear hb ho71
       refine ko hK (fun hHeld => ?_)
       clear hK K
       refine nm 45 ?_
       exact norm_ (by first | (simp only [putAll, Act.put, List.setIfInBounds_toArray, List.set_cons_zero, List.set_cons_succ]; done) | (simp only [putAll, Act.put, List.setIfInBounds_toArray, List.set_cons_zero, List.set_cons_succ]; rfl)) (hJ2_4_7_9_20 (v340) _ ⟨hHeld, (by (with_reducible repeat (first | apply Kd.R_alloc | apply Kd.R_drewN | apply Kd.R_drew)); exact HO341.out), (kbx bK1), (kbx bK2), (kbx bK3), (kbx bK4), (kbx bK5), (kbx bK6), (kbx bK7), (hbx HB)⟩)
      skip
      rintro v340 w71 ⟨hS_, h0_, h1_, h2_, h3_, h4_, h5_, h6_, h7_, h8_⟩
      have HO341 := Aside0.mk h0_
      replace bK1 := Aside0.mk h1_
      replace bK2 := Aside0.mk h2_
      replace bK3 := Aside0.mk h3_
      replace bK4 := Aside0.mk h4_
      replace bK5 := Aside0.mk h5_
      replace bK6 := Aside0.mk h6_
      replace bK7 := Aside0.mk h7_
      replace HB := Aside0.mk h8_
      clear h0_ h1_ h2_ h3_ h4_ h5_ h6_ h7_ h8_
      have hHeld := hS_
      refine norm_ (a' := ?_) ?_ ?_
      rotate_left
      ·simp only [putAll, Act.put, List.setIfInBounds_toArray, List.set_cons_zero, List.set_cons_succ]
       rfl
      refine oS 12 37 2088959 (fun K hK => ?_)
      refine gO Try.func172 #[.agg #[.int .i64 t323, .int .i64 t324, .int .i64 t325], .agg #[.int .i64 t323, .int .i64 t324, .int .i64 t325]] ?_
      with_reducible refine (impl_dot.calls t323 t324 t325 t323 t324 t325 t335 _ A14.out).mono ?_
      rintro e w72 ⟨rfl, hb⟩
      refine ⟨_, rfl, ?_⟩
      replace HO341 := Aside0.mk (Kd.R_below (by (with_reducible repeat (first | apply Kd.R_alloc | apply Kd.R_drewN | apply Kd.R_drew)); exact HO341.out) hb)
      replace bK1 := kb bK1 hb
      replace bK2 := kb bK2 hb
      replace bK3 := kb bK3 hb
      replace bK4 := kb bK4 hb
      replace bK5 := kb bK5 hb
      replace bK6 := kb bK6 hb
      replace bK7 := kb bK7 hb
      replace HB := bt HB hb
      (try clear hb)
      (try clear hb2)
      (try clear hk)
      (try clear hi)
      refine ko hK (fun hHeld => ?_)
      clear hK K
      refine nm 37 ?_
      exact norm_ (by first | (simp only [putAll, Act.put, List.setIfInBounds_toArray, List.set_cons_zero, List.set_cons_succ]; done) | (simp only [putAll, Act.put, List.setIfInBounds_toArray, List.set_cons_zero, List.set_cons_succ]; rfl)) (hJ2_4_7_9_12_20 (v340) _ ⟨hHeld, (by (with_reducible repeat (first | apply Kd.R_alloc | apply Kd.R_drewN | apply Kd.R_drew)); exact HO341.out), (kbx bK1), (kbx bK2), (kbx bK3), (kbx bK4), (kbx bK5), (kbx bK6), (kbx bK7), (hbx HB)⟩)
     skip
     rintro _ w70 ⟨hS_, h0_, h1_, h2_, h3_, h4_, h5_, h6_, h7_⟩
     replace bK1 := Aside0.mk h0_
     replace bK2 := Aside0.mk h1_
     replace bK3 := Aside0.mk h2_
     replace bK4 := Aside0.mk h3_
     replace bK5 := Aside0.mk h4_
     replace bK6 := Aside0.mk h5_
     replace bK7 := Aside0.mk h6_
     replace HB := Aside0.mk h7_
     clear h0_ h1_ h2_ h3_ h4_ h5_ h6_ h7_
     have hHeld := hS_
     refine norm_ (a' := ?_) ?_ ?_
     rotate_left
     ·simp only [putAll, Act.put, List.setIfInBounds_toArray, List.set_cons_zero, List.set_cons_succ]
      rfl
     refine two_ (i := 13) (j := 20) (Ni := some 38) (Nj := some 45) (bl 23 1048575) (bl 23 2088959) rfl rfl rfl rfl (two_of HT_.out (by kernel_rfl)) (by decide) (by decide) (fun K hK => ?_) (fun K hK => ?_)
     ·skip
      refine Kd.R_lit_step (Kd.int .i64) _ 3 ?hg (N := 38) ?hd (xs := ([t330, t334, t335] : List Int)) (inner := [.int .i64 t330, .int .i64 t334, .int .i64 t335]) (ok := fun _ => True) (okp := fun _ => True) ?hr ?hp (fun _ hk => hk) trivial (Below.refl _ _) (Nat.le_refl _) (by simp) ?_; (case hd => rfl); (case hg => rfl); (case hr => first | (go_simp; done) | (go_simp; rfl)); (case hp => exact (Reps.one (show Kd.M (Kd.int .i64) _ _ _ t330 [.int .i64 t330] from rfl) (Reps.one (show Kd.M (Kd.int .i64) _ _ _ t334 [.int .i64 t334] from rfl) (Reps.one (show Kd.M (Kd.int .i64) _ _ _ t335 [.int .i64 t335] from rfl) (Reps.none _ _)))))
      intro v337 w71 ho72 hb hg_ hnew_
      clear hg_ hnew_
      (first | rw [← Ny336.out] at ho72 | (simp only [Int.reduceToNat] at ho72; rw [← Ny336.out] at ho72))
      have HO338 := Aside0.mk (Kd.R_lower ho72 (below_size (hbx HB)))
      replace bK1 := kb bK1 hb
      replace bK2 := kb bK2 hb
      replace bK3 := kb bK3 hb
      replace bK4 := kb bK4 hb
      replace bK5 := kb bK5 hb
      replace bK6 := kb bK6 hb
      replace bK7 := kb bK7 hb
      replace HB := bt HB hb
      clear hb ho72
      refine ko hK (fun hHeld => ?_)
      clear hK K
      refine nm 38 ?_
      exact norm_ (by first | (simp only [putAll, Act.put, List.setIfInBounds_toArray, List.set_cons_zero, List.set_cons_succ]; done) | (simp only [putAll, Act.put, List.setIfInBounds_toArray, List.set_cons_zero, List.set_cons_succ]; rfl)) (hJ2_4_7_9_12_13 (v337) _ ⟨hHeld, (by (with_reducible repeat (first | apply Kd.R_alloc | apply Kd.R_drewN | apply Kd.R_drew)); exact HO338.out), (kbx bK1), (kbx bK2), (kbx bK3), (kbx bK4), (kbx bK5), (kbx bK6), (kbx bK7), (hbx HB)⟩)
     skip
     refine Kd.R_lit_step (Kd.int .i64) _ 3 ?hg (N := 45) ?hd (xs := ([a0_3, a1_3, a2_3] : List Int)) (inner := [.int .i64 a0_3, .int .i64 a1_3, .int .i64 a2_3]) (ok := fun _ => True) (okp := fun _ => True) ?hr ?hp (fun _ hk => hk) trivial (Below.refl _ _) (Nat.le_refl _) (by simp) ?_; (case hd => rfl); (case hg => rfl); (case hr => first | (go_simp; done) | (go_simp; rfl)); (case hp => exact (Reps.one (show Kd.M (Kd.int .i64) _ _ _ a0_3 [.int .i64 a0_3] from rfl) (Reps.one (show Kd.M (Kd.int .i64) _ _ _ a1_3 [.int .i64 a1_3] from rfl) (Reps.one (show Kd.M (Kd.int .i64) _ _ _ a2_3 [.int .i64 a2_3] from rfl) (Reps.none _ _)))))
     intro v340 w71 ho72 hb hg_ hnew_
     clear hg_ hnew_
     (first | rw [← Ny339.out] at ho72 | (simp only [Int.reduceToNat] at ho72; rw [← Ny339.out] at ho72))
     have HO341 := Aside0.mk (Kd.R_lower ho72 (below_size (hbx HB)))
     replace bK1 := kb bK1 hb
     replace bK2 := kb bK2 hb
     replace bK3 := kb bK3 hb
     replace bK4 := kb bK4 hb
     replace bK5 := kb bK5 hb
     replace bK6 := kb bK6 hb
     replace bK7 := kb bK7 hb
     replace HB := bt HB hb
     clear hb ho72
     refine ko hK (fun hHeld => ?_)
     clear hK K
     refine nm 45 ?_
     exact norm_ (by first | (simp only [putAll, Act.put, List.setIfInBounds_toArray, List.set_cons_zero, List.set_cons_succ]; done) | (simp only [putAll, Act.put, List.setIfInBounds_toArray, List.set_cons_zero, List.set_cons_succ]; rfl)) (hJ2_4_7_9_12_20 (v340) _ ⟨hHeld, (by (with_reducible repeat (first | apply Kd.R_alloc | apply Kd.R_drewN | apply Kd.R_drew)); exact HO341.out), (kbx bK1), (kbx bK2), (kbx bK3), (kbx bK4), (kbx bK5), (kbx bK6), (kbx bK7), (hbx HB)⟩)
    skip
    rintro v340 w72 ⟨hS_, h0_, h1_, h2_, h3_, h4_, h5_, h6_, h7_, h8_⟩
    have HO341 := Aside0.mk h0_
    replace bK1 := Aside0.mk h1_
    replace bK2 := Aside0.mk h2_
    replace bK3 := Aside0.mk h3_
    replace bK4 := Aside0.mk h4_
    replace bK5 := Aside0.mk h5_
    replace bK6 := Aside0.mk h6_
    replace bK7 := Aside0.mk h7_
    replace HB := Aside0.mk h8_
    clear h0_ h1_ h2_ h3_ h4_ h5_ h6_ h7_ h8_
    have hHeld := hS_
    refine norm_ (a' := ?_) ?_ ?_
    rotate_left
    ·simp only [putAll, Act.put, List.setIfInBounds_toArray, List.set_cons_zero, List.set_cons_succ]
     rfl
    refine oS 13 38 2097151 (fun K hK => ?_)
    refine Kd.R_lit_step (Kd.int .i64) _ 3 ?hg (N := 38) ?hd (xs := ([t330, t334, t335] : List Int)) (inner := [.int .i64 t330, .int .i64 t334, .int .i64 t335]) (ok := fun _ => True) (okp := fun _ => True) ?hr ?hp (fun _ hk => hk) trivial (Below.refl _ _) (Nat.le_refl _) (by simp) ?_; (case hd => rfl); (case hg => rfl); (case hr => first | (go_simp; done) | (go_simp; rfl)); (case hp => exact (Reps.one (show Kd.M (Kd.int .i64) _ _ _ t330 [.int .i64 t330] from rfl) (Reps.one (show Kd.M (Kd.int .i64) _ _ _ t334 [.int .i64 t334] from rfl) (Reps.one (show Kd.M (Kd.int .i64) _ _ _ t335 [.int .i64 t335] from rfl) (Reps.none _ _)))))
    intro v337 w73 ho74 hb hg_ hnew_
    clear hg_ hnew_
    (first | rw [← Ny336.out] at ho74 | (simp only [Int.reduceToNat] at ho74; rw [← Ny336.out] at ho74))
    have n0_ := Aside0.mk (Kd.R_elder' (by (with_reducible repeat (first | apply Kd.R_alloc | apply Kd.R_drewN | apply Kd.R_drew)); exact HO341.out) (Kd.R_base ho74) hb)
    have n1_ := Aside0.mk (Kd.R_lower (Kd.R_new' ho74 (Kd.R_lt (by (with_reducible repeat (first | apply Kd.R_alloc | apply Kd.R_drewN | apply Kd.R_drew)); exact HO341.out))) (below_size (hbx HB)))
    have n2_ := kb bK1 hb
    have n3_ := kb bK2 hb
    have n4_ := kb bK3 hb
    have n5_ := kb bK4 hb
    have n6_ := kb bK5 hb
    have n7_ := kb bK6 hb
    have n8_ := kb bK7 hb
    have n9_ := bt HB hb
    clear HO341
    clear bK1
    clear bK2
    clear bK3
    clear bK4
    clear bK5
    clear bK6
    clear bK7
    clear HB
    have HO341 := n0_
    have HO338 := n1_
    have bK1 := n2_
    have bK2 := n3_
    have bK3 := n4_
    have bK4 := n5_
    have bK5 := n6_
    have bK6 := n7_
    have bK7 := n8_
    have HB := n9_
    clear n0_ n1_ n2_ n3_ n4_ n5_ n6_ n7_ n8_ n9_
    clear hb ho74
    refine ko hK (fun hHeld => ?_)
    clear hK K
    refine nm 38 ?_
    exact norm_ (by first | (simp only [putAll, Act.put, List.setIfInBounds_toArray, List.set_cons_zero, List.set_cons_succ]; done) | (simp only [putAll, Act.put, List.setIfInBounds_toArray, List.set_cons_zero, List.set_cons_succ]; rfl)) (hJ2_4_7_9_12_13_20 (v337, v340) _ ⟨hHeld, (by (with_reducible repeat (first | apply Kd.R_alloc | apply Kd.R_drewN | apply Kd.R_drew)); exact Kd.R_mono HO338.out (fun _ hk => hk.2)), (by (with_reducible repeat (first | apply Kd.R_alloc | apply Kd.R_drewN | apply Kd.R_drew)); exact Kd.R_mono HO341.out (fun _ hk => hk.2)), (kbx bK1), (kbx bK2), (kbx bK3), (kbx bK4), (kbx bK5), (kbx bK6), (kbx bK7), (hbx HB)⟩)
   skip
   rintro v337 w72 ⟨hS_, h0_, h1_, h2_, h3_, h4_, h5_, h6_, h7_, h8_⟩
   have HO338 := Aside0.mk h0_
   replace bK1 := Aside0.mk h1_
   replace bK2 := Aside0.mk h2_
   replace bK3 := Aside0.mk h3_
   replace bK4 := Aside0.mk h4_
   replace bK5 := Aside0.mk h5_
   replace bK6 := Aside0.mk h6_
   replace bK7 := Aside0.mk h7_
   replace HB := Aside0.mk h8_
   clear h0_ h1_ h2_ h3_ h4_ h5_ h6_ h7_ h8_
   have hHeld := hS_
   refine norm_ (a' := ?_) ?_ ?_
   rotate_left
   ·simp only [putAll, Act.put, List.setIfInBounds_toArray, List.set_cons_zero, List.set_cons_succ]
    rfl
   refine oS 20 45 2097151 (fun K hK => ?_)
   refine Kd.R_lit_step (Kd.int .i64) _ 3 ?hg (N := 45) ?hd (xs := ([a0_3, a1_3, a2_3] : List Int)) (inner := [.int .i64 a0_3, .int .i64 a1_3, .int .i64 a2_3]) (ok := fun _ => True) (okp := fun _ => True) ?hr ?hp (fun _ hk => hk) trivial (Below.refl _ _) (Nat.le_refl _) (by simp) ?_; (case hd => rfl); (case hg => rfl); (case hr => first | (go_simp; done) | (go_simp; rfl)); (case hp => exact (Reps.one (show Kd.M (Kd.int .i64) _ _ _ a0_3 [.int .i64 a0_3] from rfl) (Reps.one (show Kd.M (Kd.int .i64) _ _ _ a1_3 [.int .i64 a1_3] from rfl) (Reps.one (show Kd.M (Kd.int .i64) _ _ _ a2_3 [.int .i64 a2_3] from rfl) (Reps.none _ _)))))
   intro v340 w73 ho74 hb hg_ hnew_
   clear hg_ hnew_
   (first | rw [← Ny339.out] at ho74 | (simp only [Int.reduceToNat] at ho74; rw [← Ny339.out] at ho74))
   have n0_ := Aside0.mk (Kd.R_elder' (by (with_reducible repeat (first | apply Kd.R_alloc | apply Kd.R_drewN | apply Kd.R_drew)); exact HO338.out) (Kd.R_base ho74) hb)
   have n1_ := Aside0.mk (Kd.R_lower (Kd.R_new' ho74 (Kd.R_lt (by (with_reducible repeat (first | apply Kd.R_alloc | apply Kd.R_drewN | apply Kd.R_drew)); exact HO338.out))) (below_size (hbx HB)))
   have n2_ := kb bK1 hb
   have n3_ := kb bK2 hb
   have n4_ := kb bK3 hb
   have n5_ := kb bK4 hb
   have n6_ := kb bK5 hb
   have n7_ := kb bK6 hb
   have n8_ := kb bK7 hb
   have n9_ := bt HB hb
   clear HO338
   clear bK1
   clear bK2
   clear bK3
   clear bK4
   clear bK5
   clear bK6
   clear bK7
   clear HB
   have HO338 := n0_
   have HO341 := n1_
   have bK1 := n2_
   have bK2 := n3_
   have bK3 := n4_
   have bK4 := n5_
   have bK5 := n6_
   have bK6 := n7_
   have bK7 := n8_
   have HB := n9_
   clear n0_ n1_ n2_ n3_ n4_ n5_ n6_ n7_ n8_ n9_
   clear hb ho74
   refine ko hK (fun hHeld => ?_)
   clear hK K
   refine nm 45 ?_
   exact norm_ (by first | (simp only [putAll, Act.put, List.setIfInBounds_toArray, List.set_cons_zero, List.set_cons_succ]; done) | (simp only [putAll, Act.put, List.setIfInBounds_toArray, List.set_cons_zero, List.set_cons_succ]; rfl)) (hJ2_4_7_9_12_13_20 (v337, v340) _ ⟨hHeld, (by (with_reducible repeat (first | apply Kd.R_alloc | apply Kd.R_drewN | apply Kd.R_drew)); exact Kd.R_mono HO338.out (fun _ hk => hk.2)), (by (with_reducible repeat (first | apply Kd.R_alloc | apply Kd.R_drewN | apply Kd.R_drew)); exact Kd.R_mono HO341.out (fun _ hk => hk.2)), (kbx bK1), (kbx bK2), (kbx bK3), (kbx bK4), (kbx bK5), (kbx bK6), (kbx bK7), (hbx HB)⟩)
  rintro ⟨v337, v340⟩ w74 ⟨hS_, h0_, h1_, h2_, h3_, h4_, h5_, h6_, h7_, h8_, h9_⟩
  have HO338 := Aside0.mk h0_
  have HO341 := Aside0.mk h1_
  replace bK1 := Aside0.mk h2_
  replace bK2 := Aside0.mk h3_
  replace bK3 := Aside0.mk h4_
  replace bK4 := Aside0.mk h5_
  replace bK5 := Aside0.mk h6_
  replace bK6 := Aside0.mk h7_
  replace bK7 := Aside0.mk h8_
  replace HB := Aside0.mk h9_
  clear h0_ h1_ h2_ h3_ h4_ h5_ h6_ h7_ h8_ h9_
  have hHeld := hS_
  obtain ⟨Ao75, co75, eo75⟩ := Kd.R_slice HO338.out
  (first | subst eo75 | (injection eo75 with f1_ f2_ f3_; have f4_ := f1_.symm; have f5_ := f3_.symm; clear f1_ f2_ f3_; subst f4_; subst f5_))
  obtain ⟨Ao76, co76, eo76⟩ := Kd.R_slice HO341.out
  (first | subst eo76 | (injection eo76 with f1_ f2_ f3_; have f4_ := f1_.symm; have f5_ := f3_.symm; clear f1_ f2_ f3_; subst f4_; subst f5_))
  refine norm_ (a' := ?_) ?_ ?_
  rotate_left
  ·simp only [putAll, Act.put, List.setIfInBounds_toArray, List.set_cons_zero, List.set_cons_succ]
   rfl
  refine oS 21 46 4194303 (fun K hK => ?_)
  refine gO Try.func178 #[.slice Ao75 y336.length co75, .slice Ao76 y339.length co76] ?_
  with_reducible refine (impl_weighs.calls k _ _ y336 _ _ y339 t342 _ ?side1 ?side2 ?side3 ?side4 A15.out).mono ?_
  (case side1 => repeat (first | exact (Kd.R_reads' HO338.out).2.2 | (with_reducible refine Kd.C_alloc ?_ _) | (with_reducible refine Kd.C_drewN ?_ _) | (with_reducible refine Kd.C_drew ?_)))
  (case side2 => exact (Kd.R_reads' HO338.out).2.1)
  (case side3 => repeat (first | exact (Kd.R_reads' HO341.out).2.2 | (with_reducible refine Kd.C_alloc ?_ _) | (with_reducible refine Kd.C_drewN ?_ _) | (with_reducible refine Kd.C_drew ?_)))
  (case side4 => exact (Kd.R_reads' HO341.out).2.1)
  rintro e w' ⟨rfl, ⟨nd, rfl⟩⟩
  refine ⟨_, rfl, ?_⟩
  refine ko hK (fun hHeld => ?_)
  clear hK K
  refine nm 46 ?_
  refine pS 22 6 8388607 ?_
  refine done_ (done_of HT_.out (by kernel_rfl)) ?_
  try go_wp2
  go_ret
  exact fin HB
 rw [if_neg c8] at H
 have c8b0 : (t322 == 0) = false := beq_eq_false_iff_ne.mpr c8
 have c8b1 : (t322 != 0) = true := bne_iff_ne.mpr c8
 obtain rfl := Option.some.inj H
 go_enter Try.func165, Try.ntmps165
 try go_wp2_with (first | ((with_reducible refine gate_dst (N := 3) rfl ?_); refine box_event ?hg (N := 3) ?hd (cs := #[.int .i64 a0_0, .int .i64 a0_1, .int .i64 a0_2, .int .i64 a0_3]) (t := 23) ?hr ?_; (case hd => rfl); (case hg => rfl); (case hr => first | (go_simp; done) | (go_simp; rfl)); intro g1 hg w77 hbox hb; have bK1 := Aside0.mk (hbox); have bW1 := gx hg HB; have bE1 := gx hg HB; replace HB := bt HB hb; clear hb hbox hg) | ((with_reducible refine gate_dst (N := 4) rfl ?_); refine box_event ?hg (N := 4) ?hd (cs := #[.int .i64 a1_0, .int .i64 a1_1, .int .i64 a1_2, .int .i64 a1_3]) (t := 23) ?hr ?_; (case hd => rfl); (case hg => rfl); (case hr => first | (go_simp; done) | (go_simp; rfl)); intro g2 hg w78 hbox hb; have n0_ := kb bK1 hb; have n1_ := bt HB hb; have n2_ := Aside0.mk (hbox); have n3_ := gx hg HB; have n4_ := gx hg HB; have n5_ := nl hg bK1; have n6_ := nr hg bK1; clear bK1; clear HB; have bK1 := n0_; have HB := n1_; have bK2 := n2_; have bW2 := n3_; have bE2 := n4_; have bN1_2 := n5_; have bN2_1 := n6_; clear n0_ n1_ n2_ n3_ n4_ n5_ n6_; clear hb hbox hg) | ((with_reducible refine gate_dst (N := 5) rfl ?_); refine box_event ?hg (N := 5) ?hd (cs := #[.int .i64 a2_0, .int .i64 a2_1, .int .i64 a2_2, .int .i64 a2_3]) (t := 23) ?hr ?_; (case hd => rfl); (case hg => rfl); (case hr => first | (go_simp; done) | (go_simp; rfl)); intro g3 hg w79 hbox hb; have n0_ := kb bK1 hb; have n1_ := kb bK2 hb; have n2_ := bt HB hb; have n3_ := Aside0.mk (hbox); have n4_ := gx hg HB; have n5_ := gx hg HB; have n6_ := nl hg bK1; have n7_ := nr hg bK1; have n8_ := nl hg bK2; have n9_ := nr hg bK2; clear bK1; clear bK2; clear HB; have bK1 := n0_; have bK2 := n1_; have HB := n2_; have bK3 := n3_; have bW3 := n4_; have bE3 := n5_; have bN1_3 := n6_; have bN3_1 := n7_; have bN2_3 := n8_; have bN3_2 := n9_; clear n0_ n1_ n2_ n3_ n4_ n5_ n6_ n7_ n8_ n9_; clear hb hbox hg))
 replace bK1 := Aside0.mk (blk_drew bK1.out)
 replace bK2 := Aside0.mk (blk_drew bK2.out)
 replace bK3 := Aside0.mk (blk_drew bK3.out)
 replace HB := Aside0.mk (below_drew1 HB.out)
 refine start_ (n := 12) (S := fun w' => True) (ds := []) (bl 12 0) (by kernel_rfl) rfl rfl trivial (fun hHeld => ?_); refine with_tabW impl_clash3.tab1 impl_clash3.bits1 (fun HT_ HW_ => ?_)
 generalize w79.drew = w80 at bK1 bK2 bK3 HB hHeld ⊢
 refine inv_at [0, 1, 2, 3, 4, 5, 6, 7, 8, 9, 10, 11] (fun a0_ b a w' => ∃ (g4 : Nat) (g5 : Nat) (g6 : Nat) (m6_ : Value) (m7_ : Value) (m8_ : Value), a = putSel a0_ b [(0, 11, .agg #[.int .i64 a0_0, .int .i64 a0_1, .int .i64 a0_2, .int .i64 a0_3]), (1, 12, .agg #[.int .i64 t310, .int .i64 t311, .int .i64 t312]), (2, 13, .agg #[.int .i64 a1_0, .int .i64 a1_1, .int .i64 a1_2, .int .i64 a1_3]), (3, 14, .agg #[.int .i64 t313, .int .i64 t314, .int .i64 t315]), (4, 15, .agg #[.int .i64 a2_0, .int .i64 a2_1, .int .i64 a2_2, .int .i64 a2_3]), (5, 16, .agg #[.int .i64 t316, .int .i64 t317, .int .i64 t318]), (6, 7, m6_), (7, 8, m7_), (8, 9, m8_)] ∧ (w'.heap[g1]? = some (.cells #[.int .i64 a0_0, .int .i64 a0_1, .int .i64 a0_2, .int .i64 a0_3] 23 (0, 0))) ∧ (w'.heap[g2]? = some (.cells #[.int .i64 a1_0, .int .i64 a1_1, .int .i64 a1_2, .int .i64 a1_3] 23 (0, 0))) ∧ (w'.heap[g3]? = some (.cells #[.int .i64 a2_0, .int .i64 a2_1, .int .i64 a2_2, .int .i64 a2_3] 23 (0, 0))) ∧ (Below w.heap.size w w') ∧ (b 6 = true → b 7 = true → g5 ≠ g4) ∧ (b 6 = true → b 7 = true → g4 ≠ g5) ∧ (b 6 = true → b 8 = true → g6 ≠ g4) ∧ (b 6 = true → b 8 = true → g4 ≠ g6) ∧ (b 7 = true → b 8 = true → g6 ≠ g5) ∧ (b 7 = true → b 8 = true → g5 ≠ g6) ∧ (b 6 = true → b 9 = false → w'.heap[g4]? = some (.cells #[.int .i64 0, .int .i64 0, .int .i64 0] 128 (0, 0))) ∧ (b 6 = true → w.heap.size ≤ g4) ∧ (b 6 = true → w.heap.size ≤ g4) ∧ (b 6 = true → g1 ≠ g4) ∧ (b 6 = true → g4 ≠ g1) ∧ (b 6 = true → g2 ≠ g4) ∧ (b 6 = true → g4 ≠ g2) ∧ (b 6 = true → g3 ≠ g4) ∧ (b 6 = true → g4 ≠ g3) ∧ (b 7 = true → b 10 = false → w'.heap[g5]? = some (.cells #[.int .i64 0, .int .i64 0, .int .i64 0] 128 (0, 0))) ∧ (b 7 = true → w.heap.size ≤ g5) ∧ (b 7 = true → w.heap.size ≤ g5) ∧ (b 7 = true → g1 ≠ g5) ∧ (b 7 = true → g5 ≠ g1) ∧ (b 7 = true → g2 ≠ g5) ∧ (b 7 = true → g5 ≠ g2) ∧ (b 7 = true → g3 ≠ g5) ∧ (b 7 = true → g5 ≠ g3) ∧ (b 8 = true → b 11 = false → w'.heap[g6]? = some (.cells #[.int .i64 0, .int .i64 0, .int .i64 0] 128 (0, 0))) ∧ (b 8 = true → w.heap.size ≤ g6) ∧ (b 8 = true → w.heap.size ≤ g6) ∧ (b 8 = true → g1 ≠ g6) ∧ (b 8 = true → g6 ≠ g1) ∧ (b 8 = true → g2 ≠ g6) ∧ (b 8 = true → g6 ≠ g2) ∧ (b 8 = true → g3 ≠ g6) ∧ (b 8 = true → g6 ≠ g3) ∧ (b 9 = true → w'.heap[g4]? = some (.cells #[.int .i64 t310, .int .i64 t311, .int .i64 t312] 128 (0, 0))) ∧ (b 10 = true → w'.heap[g5]? = some (.cells #[.int .i64 t313, .int .i64 t314, .int .i64 t315] 128 (0, 0))) ∧ (b 11 = true → w'.heap[g6]? = some (.cells #[.int .i64 t316, .int .i64 t317, .int .i64 t318] 128 (0, 0))) ∧ (b 6 = true → (m6_ : Value) = .pointer (some ⟨g4, 0, none⟩)) ∧ (b 7 = true → (m7_ : Value) = .pointer (some ⟨g5, 0, none⟩)) ∧ (b 8 = true → (m8_ : Value) = .pointer (some ⟨g6, 0, none⟩))) HT_.out HW_.out (by kernel_rfl) (by kernel_rfl) ?_ ?_ ?_
 ·exact ⟨0, 0, 0, .bool false, .bool false, .bool false, by simp only [putSel, Bool.false_eq_true, if_false], bK1.out, bK2.out, bK3.out, HB.out, fun h_ => absurd h_ (by decide), fun h_ => absurd h_ (by decide), fun h_ => absurd h_ (by decide), fun h_ => absurd h_ (by decide), fun h_ => absurd h_ (by decide), fun h_ => absurd h_ (by decide), fun h_ => absurd h_ (by decide), fun h_ => absurd h_ (by decide), fun h_ => absurd h_ (by decide), fun h_ => absurd h_ (by decide), fun h_ => absurd h_ (by decide), fun h_ => absurd h_ (by decide), fun h_ => absurd h_ (by decide), fun h_ => absurd h_ (by decide), fun h_ => absurd h_ (by decide), fun h_ => absurd h_ (by decide), fun h_ => absurd h_ (by decide), fun h_ => absurd h_ (by decide), fun h_ => absurd h_ (by decide), fun h_ => absurd h_ (by decide), fun h_ => absurd h_ (by decide), fun h_ => absurd h_ (by decide), fun h_ => absurd h_ (by decide), fun h_ => absurd h_ (by decide), fun h_ => absurd h_ (by decide), fun h_ => absurd h_ (by decide), fun h_ => absurd h_ (by decide), fun h_ => absurd h_ (by decide), fun h_ => absurd h_ (by decide), fun h_ => absurd h_ (by decide), fun h_ => absurd h_ (by decide), fun h_ => absurd h_ (by decide), fun h_ => absurd h_ (by decide), fun h_ => absurd h_ (by decide), fun h_ => absurd h_ (by decide), fun h_ => absurd h_ (by decide), fun h_ => absurd h_ (by decide), fun h_ => absurd h_ (by decide), fun h_ => absurd h_ (by decide)⟩
 ·skip
  clear bK1 bK2 bK3 HB
  refine steps_cons ?_ ?_
  ·rintro b a w' ⟨g4, g5, g6, m6_, m7_, m8_, ha, qK1, qK2, qK3, Q_HB, qN5_4, qN4_5, qN6_4, qN4_6, qN6_5, qN5_6, qK4, qW4, qE4, qN1_4, qN4_1, qN2_4, qN4_2, qN3_4, qN4_3, qK5, qW5, qE5, qN1_5, qN5_1, qN2_5, qN5_2, qN3_5, qN5_3, qK6, qW6, qE6, qN1_6, qN6_1, qN2_6, qN6_2, qN3_6, qN6_3, qK4_e9, qK5_e10, qK6_e11, Q_X6_, Q_X7_, Q_X8_⟩ hb_ hon hoff
   refine ⟨_, rfl, fun K hK => ?_⟩
   have e3 : a.tmps[3]? = some (.pointer (some ⟨g1, 0, none⟩)) := by rw [ha]; exact (putSel_off rfl).trans rfl
   replace ha := Aside0.mk ha
   have bK1 := Aside0.mk qK1
   have bK2 := Aside0.mk qK2
   have bK3 := Aside0.mk qK3
   have HB := Aside0.mk Q_HB
   have hc0_ : w'.cell? ⟨g1, 0, none⟩ = some (.int .i64 a0_0) := (blk_cell bK1.out 0).trans rfl
   have hc1_ : w'.cell? ⟨g1, 1, none⟩ = some (.int .i64 a0_1) := (blk_cell bK1.out 1).trans rfl
   have hc2_ : w'.cell? ⟨g1, 2, none⟩ = some (.int .i64 a0_2) := (blk_cell bK1.out 2).trans rfl
   have hc3_ : w'.cell? ⟨g1, 3, none⟩ = some (.int .i64 a0_3) := (blk_cell bK1.out 3).trans rfl
   refine value_ (w1 := w') (v := .agg #[.int .i64 a0_0, .int .i64 a0_1, .int .i64 a0_2, .int .i64 a0_3]) (by rfl) rfl ?_ ?_
   ·go_simp
    (try simp only [i64_w])
    try rfl
   refine hK.out _ _ ⟨g4, g5, g6, m6_, m7_, m8_, (by rw [ha.out]; exact putSel_upk 0 hb_ rfl rfl rfl), qK1, qK2, qK3, Q_HB, qN5_4, qN4_5, qN6_4, qN4_6, qN6_5, qN5_6, qK4, qW4, qE4, qN1_4, qN4_1, qN2_4, qN4_2, qN3_4, qN4_3, qK5, qW5, qE5, qN1_5, qN5_1, qN2_5, qN5_2, qN3_5, qN5_3, qK6, qW6, qE6, qN1_6, qN6_1, qN2_6, qN6_2, qN3_6, qN6_3, fun h0_ => absurd ((hoff 9 (by kernel_rfl)).symm.trans h0_) (by decide), fun h0_ => absurd ((hoff 10 (by kernel_rfl)).symm.trans h0_) (by decide), fun h0_ => absurd ((hoff 11 (by kernel_rfl)).symm.trans h0_) (by decide), Q_X6_, Q_X7_, Q_X8_⟩
  refine steps_cons ?_ ?_
  ·rintro b a w' ⟨g4, g5, g6, m6_, m7_, m8_, ha, qK1, qK2, qK3, Q_HB, qN5_4, qN4_5, qN6_4, qN4_6, qN6_5, qN5_6, qK4, qW4, qE4, qN1_4, qN4_1, qN2_4, qN4_2, qN3_4, qN4_3, qK5, qW5, qE5, qN1_5, qN5_1, qN2_5, qN5_2, qN3_5, qN5_3, qK6, qW6, qE6, qN1_6, qN6_1, qN2_6, qN6_2, qN3_6, qN6_3, qK4_e9, qK5_e10, qK6_e11, Q_X6_, Q_X7_, Q_X8_⟩ hb_ hon hoff
   refine ⟨_, rfl, fun K hK => ?_⟩
   have e11 : a.tmps[11]? = some (.agg #[.int .i64 a0_0, .int .i64 a0_1, .int .i64 a0_2, .int .i64 a0_3]) := by rw [ha]; exact putSel_on (e := (0, 11, .agg #[.int .i64 a0_0, .int .i64 a0_1, .int .i64 a0_2, .int .i64 a0_3])) 0 rfl rfl (hon 0 (by kernel_rfl)) rfl
   replace ha := Aside0.mk ha
   have bK1 := Aside0.mk qK1
   have bK2 := Aside0.mk qK2
   have bK3 := Aside0.mk qK3
   have HB := Aside0.mk Q_HB
   refine goes_ Try.func149 (by kernel_rfl) rfl #[.agg #[.int .i64 a0_0, .int .i64 a0_1, .int .i64 a0_2, .int .i64 a0_3]] (by rfl) rfl rfl (by first | (simp only [List.map_toArray, List.map_cons, List.map_nil, Act.eval, Array.getD_eq_getD_getElem?, Option.getD_some, e11]; done) | (simp only [List.map_toArray, List.map_cons, List.map_nil, Act.eval, Array.getD_eq_getD_getElem?, Option.getD_some, e11]; rfl)) ?_
   with_reducible refine (impl_normal.calls a0_0 a0_1 a0_2 a0_3 t310 t311 t312 _ A4.out).mono ?_
   rintro e w81 ⟨rfl, hb⟩
   refine ⟨_, rfl, ?_⟩
   have n0_ := kb bK1 hb
   have n1_ := kb bK2 hb
   have n2_ := kb bK3 hb
   have n3_ := bt HB hb
   have zK4 := fun (h0_ : b 6 = true) (h1_ : b 9 = false) => (show w81.heap[g4]? = some (.cells #[.int .i64 0, .int .i64 0, .int .i64 0] 128 (0, 0)) from by first | exact (blk_below (g := g4) (o := .cells #[.int .i64 0, .int .i64 0, .int .i64 0] 128 (0, 0)) (by (with_reducible repeat (first | refine blk_drewN ?_ _ | refine blk_drew ?_ | refine blk_alloc ?_ _)); exact (qK4 h0_ h1_)) hb))
   have zK5 := fun (h0_ : b 7 = true) (h1_ : b 10 = false) => (show w81.heap[g5]? = some (.cells #[.int .i64 0, .int .i64 0, .int .i64 0] 128 (0, 0)) from by first | exact (blk_below (g := g5) (o := .cells #[.int .i64 0, .int .i64 0, .int .i64 0] 128 (0, 0)) (by (with_reducible repeat (first | refine blk_drewN ?_ _ | refine blk_drew ?_ | refine blk_alloc ?_ _)); exact (qK5 h0_ h1_)) hb))
   have zK6 := fun (h0_ : b 8 = true) (h1_ : b 11 = false) => (show w81.heap[g6]? = some (.cells #[.int .i64 0, .int .i64 0, .int .i64 0] 128 (0, 0)) from by first | exact (blk_below (g := g6) (o := .cells #[.int .i64 0, .int .i64 0, .int .i64 0] 128 (0, 0)) (by (with_reducible repeat (first | refine blk_drewN ?_ _ | refine blk_drew ?_ | refine blk_alloc ?_ _)); exact (qK6 h0_ h1_)) hb))
   clear bK1
   clear bK2
   clear bK3
   clear HB
   have bK1 := n0_
   have bK2 := n1_
   have bK3 := n2_
   have HB := n3_
   clear n0_ n1_ n2_ n3_
   (try clear hb)
   (try clear hb2)
   (try clear hk)
   (try clear hi)
   refine hK.out _ _ ⟨g4, g5, g6, m6_, m7_, m8_, (by rw [ha.out]; exact putSel_upk 1 hb_ rfl rfl rfl), (kbx bK1), (kbx bK2), (kbx bK3), (hbx HB), qN5_4, qN4_5, qN6_4, qN4_6, qN6_5, qN5_6, zK4, qW4, qE4, qN1_4, qN4_1, qN2_4, qN4_2, qN3_4, qN4_3, zK5, qW5, qE5, qN1_5, qN5_1, qN2_5, qN5_2, qN3_5, qN5_3, zK6, qW6, qE6, qN1_6, qN6_1, qN2_6, qN6_2, qN3_6, qN6_3, fun h0_ => absurd ((hoff 9 (by kernel_rfl)).symm.trans h0_) (by decide), fun h0_ => absurd ((hoff 10 (by kernel_rfl)).symm.trans h0_) (by decide), fun h0_ => absurd ((hoff 11 (by kernel_rfl)).symm.trans h0_) (by decide), Q_X6_, Q_X7_, Q_X8_⟩
  refine steps_cons ?_ ?_
  ·rintro b a w' ⟨g4, g5, g6, m6_, m7_, m8_, ha, qK1, qK2, qK3, Q_HB, qN5_4, qN4_5, qN6_4, qN4_6, qN6_5, qN5_6, qK4, qW4, qE4, qN1_4, qN4_1, qN2_4, qN4_2, qN3_4, qN4_3, qK5, qW5, qE5, qN1_5, qN5_1, qN2_5, qN5_2, qN3_5, qN5_3, qK6, qW6, qE6, qN1_6, qN6_1, qN2_6, qN6_2, qN3_6, qN6_3, qK4_e9, qK5_e10, qK6_e11, Q_X6_, Q_X7_, Q_X8_⟩ hb_ hon hoff
   refine ⟨_, rfl, fun K hK => ?_⟩
   have e4 : a.tmps[4]? = some (.pointer (some ⟨g2, 0, none⟩)) := by rw [ha]; exact (putSel_off rfl).trans rfl
   replace ha := Aside0.mk ha
   have bK1 := Aside0.mk qK1
   have bK2 := Aside0.mk qK2
   have bK3 := Aside0.mk qK3
   have HB := Aside0.mk Q_HB
   have hc0_ : w'.cell? ⟨g2, 0, none⟩ = some (.int .i64 a1_0) := (blk_cell bK2.out 0).trans rfl
   have hc1_ : w'.cell? ⟨g2, 1, none⟩ = some (.int .i64 a1_1) := (blk_cell bK2.out 1).trans rfl
   have hc2_ : w'.cell? ⟨g2, 2, none⟩ = some (.int .i64 a1_2) := (blk_cell bK2.out 2).trans rfl
   have hc3_ : w'.cell? ⟨g2, 3, none⟩ = some (.int .i64 a1_3) := (blk_cell bK2.out 3).trans rfl
   refine value_ (w1 := w') (v := .agg #[.int .i64 a1_0, .int .i64 a1_1, .int .i64 a1_2, .int .i64 a1_3]) (by rfl) rfl ?_ ?_
   ·go_simp
    (try simp only [i64_w])
    try rfl
   refine hK.out _ _ ⟨g4, g5, g6, m6_, m7_, m8_, (by rw [ha.out]; exact putSel_upk 2 hb_ rfl rfl rfl), qK1, qK2, qK3, Q_HB, qN5_4, qN4_5, qN6_4, qN4_6, qN6_5, qN5_6, qK4, qW4, qE4, qN1_4, qN4_1, qN2_4, qN4_2, qN3_4, qN4_3, qK5, qW5, qE5, qN1_5, qN5_1, qN2_5, qN5_2, qN3_5, qN5_3, qK6, qW6, qE6, qN1_6, qN6_1, qN2_6, qN6_2, qN3_6, qN6_3, fun h0_ => absurd ((hoff 9 (by kernel_rfl)).symm.trans h0_) (by decide), fun h0_ => absurd ((hoff 10 (by kernel_rfl)).symm.trans h0_) (by decide), fun h0_ => absurd ((hoff 11 (by kernel_rfl)).symm.trans h0_) (by decide), Q_X6_, Q_X7_, Q_X8_⟩
  refine steps_cons ?_ ?_
  ·rintro b a w' ⟨g4, g5, g6, m6_, m7_, m8_, ha, qK1, qK2, qK3, Q_HB, qN5_4, qN4_5, qN6_4, qN4_6, qN6_5, qN5_6, qK4, qW4, qE4, qN1_4, qN4_1, qN2_4, qN4_2, qN3_4, qN4_3, qK5, qW5, qE5, qN1_5, qN5_1, qN2_5, qN5_2, qN3_5, qN5_3, qK6, qW6, qE6, qN1_6, qN6_1, qN2_6, qN6_2, qN3_6, qN6_3, qK4_e9, qK5_e10, qK6_e11, Q_X6_, Q_X7_, Q_X8_⟩ hb_ hon hoff
   refine ⟨_, rfl, fun K hK => ?_⟩
   have e13 : a.tmps[13]? = some (.agg #[.int .i64 a1_0, .int .i64 a1_1, .int .i64 a1_2, .int .i64 a1_3]) := by rw [ha]; exact putSel_on (e := (2, 13, .agg #[.int .i64 a1_0, .int .i64 a1_1, .int .i64 a1_2, .int .i64 a1_3])) 2 rfl rfl (hon 2 (by kernel_rfl)) rfl
   replace ha := Aside0.mk ha
   have bK1 := Aside0.mk qK1
   have bK2 := Aside0.mk qK2
   have bK3 := Aside0.mk qK3
   have HB := Aside0.mk Q_HB
   refine goes_ Try.func149 (by kernel_rfl) rfl #[.agg #[.int .i64 a1_0, .int .i64 a1_1, .int .i64 a1_2, .int .i64 a1_3]] (by rfl) rfl rfl (by first | (simp only [List.map_toArray, List.map_cons, List.map_nil, Act.eval, Array.getD_eq_getD_getElem?, Option.getD_some, e13]; done) | (simp only [List.map_toArray, List.map_cons, List.map_nil, Act.eval, Array.getD_eq_getD_getElem?, Option.getD_some, e13]; rfl)) ?_
   with_reducible refine (impl_normal.calls a1_0 a1_1 a1_2 a1_3 t313 t314 t315 _ A5.out).mono ?_
   rintro e w83 ⟨rfl, hb⟩
   refine ⟨_, rfl, ?_⟩
   have n0_ := kb bK1 hb
   have n1_ := kb bK2 hb
   have n2_ := kb bK3 hb
   have n3_ := bt HB hb
   have zK4 := fun (h0_ : b 6 = true) (h1_ : b 9 = false) => (show w83.heap[g4]? = some (.cells #[.int .i64 0, .int .i64 0, .int .i64 0] 128 (0, 0)) from by first | exact (blk_below (g := g4) (o := .cells #[.int .i64 0, .int .i64 0, .int .i64 0] 128 (0, 0)) (by (with_reducible repeat (first | refine blk_drewN ?_ _ | refine blk_drew ?_ | refine blk_alloc ?_ _)); exact (qK4 h0_ h1_)) hb))
   have zK5 := fun (h0_ : b 7 = true) (h1_ : b 10 = false) => (show w83.heap[g5]? = some (.cells #[.int .i64 0, .int .i64 0, .int .i64 0] 128 (0, 0)) from by first | exact (blk_below (g := g5) (o := .cells #[.int .i64 0, .int .i64 0, .int .i64 0] 128 (0, 0)) (by (with_reducible repeat (first | refine blk_drewN ?_ _ | refine blk_drew ?_ | refine blk_alloc ?_ _)); exact (qK5 h0_ h1_)) hb))
   have zK6 := fun (h0_ : b 8 = true) (h1_ : b 11 = false) => (show w83.heap[g6]? = some (.cells #[.int .i64 0, .int .i64 0, .int .i64 0] 128 (0, 0)) from by first | exact (blk_below (g := g6) (o := .cells #[.int .i64 0, .int .i64 0, .int .i64 0] 128 (0, 0)) (by (with_reducible repeat (first | refine blk_drewN ?_ _ | refine blk_drew ?_ | refine blk_alloc ?_ _)); exact (qK6 h0_ h1_)) hb))
   clear bK1
   clear bK2
   clear bK3
   clear HB
   have bK1 := n0_
   have bK2 := n1_
   have bK3 := n2_
   have HB := n3_
   clear n0_ n1_ n2_ n3_
   (try clear hb)
   (try clear hb2)
   (try clear hk)
   (try clear hi)
   refine hK.out _ _ ⟨g4, g5, g6, m6_, m7_, m8_, (by rw [ha.out]; exact putSel_upk 3 hb_ rfl rfl rfl), (kbx bK1), (kbx bK2), (kbx bK3), (hbx HB), qN5_4, qN4_5, qN6_4, qN4_6, qN6_5, qN5_6, zK4, qW4, qE4, qN1_4, qN4_1, qN2_4, qN4_2, qN3_4, qN4_3, zK5, qW5, qE5, qN1_5, qN5_1, qN2_5, qN5_2, qN3_5, qN5_3, zK6, qW6, qE6, qN1_6, qN6_1, qN2_6, qN6_2, qN3_6, qN6_3, fun h0_ => absurd ((hoff 9 (by kernel_rfl)).symm.trans h0_) (by decide), fun h0_ => absurd ((hoff 10 (by kernel_rfl)).symm.trans h0_) (by decide), fun h0_ => absurd ((hoff 11 (by kernel_rfl)).symm.trans h0_) (by decide), Q_X6_, Q_X7_, Q_X8_⟩
  refine steps_cons ?_ ?_
  ·rintro b a w' ⟨g4, g5, g6, m6_, m7_, m8_, ha, qK1, qK2, qK3, Q_HB, qN5_4, qN4_5, qN6_4, qN4_6, qN6_5, qN5_6, qK4, qW4, qE4, qN1_4, qN4_1, qN2_4, qN4_2, qN3_4, qN4_3, qK5, qW5, qE5, qN1_5, qN5_1, qN2_5, qN5_2, qN3_5, qN5_3, qK6, qW6, qE6, qN1_6, qN6_1, qN2_6, qN6_2, qN3_6, qN6_3, qK4_e9, qK5_e10, qK6_e11, Q_X6_, Q_X7_, Q_X8_⟩ hb_ hon hoff
   refine ⟨_, rfl, fun K hK => ?_⟩
   have e5 : a.tmps[5]? = some (.pointer (some ⟨g3, 0, none⟩)) := by rw [ha]; exact (putSel_off rfl).trans rfl
   replace ha := Aside0.mk ha
   have bK1 := Aside0.mk qK1
   have bK2 := Aside0.mk qK2
   have bK3 := Aside0.mk qK3
   have HB := Aside0.mk Q_HB
   have hc0_ : w'.cell? ⟨g3, 0, none⟩ = some (.int .i64 a2_0) := (blk_cell bK3.out 0).trans rfl
   have hc1_ : w'.cell? ⟨g3, 1, none⟩ = some (.int .i64 a2_1) := (blk_cell bK3.out 1).trans rfl
   have hc2_ : w'.cell? ⟨g3, 2, none⟩ = some (.int .i64 a2_2) := (blk_cell bK3.out 2).trans rfl
   have hc3_ : w'.cell? ⟨g3, 3, none⟩ = some (.int .i64 a2_3) := (blk_cell bK3.out 3).trans rfl
   refine value_ (w1 := w') (v := .agg #[.int .i64 a2_0, .int .i64 a2_1, .int .i64 a2_2, .int .i64 a2_3]) (by rfl) rfl ?_ ?_
   ·go_simp
    (try simp only [i64_w])
    try rfl
   refine hK.out _ _ ⟨g4, g5, g6, m6_, m7_, m8_, (by rw [ha.out]; exact putSel_upk 4 hb_ rfl rfl rfl), qK1, qK2, qK3, Q_HB, qN5_4, qN4_5, qN6_4, qN4_6, qN6_5, qN5_6, qK4, qW4, qE4, qN1_4, qN4_1, qN2_4, qN4_2, qN3_4, qN4_3, qK5, qW5, qE5, qN1_5, qN5_1, qN2_5, qN5_2, qN3_5, qN5_3, qK6, qW6, qE6, qN1_6, qN6_1, qN2_6, qN6_2, qN3_6, qN6_3, fun h0_ => absurd ((hoff 9 (by kernel_rfl)).symm.trans h0_) (by decide), fun h0_ => absurd ((hoff 10 (by kernel_rfl)).symm.trans h0_) (by decide), fun h0_ => absurd ((hoff 11 (by kernel_rfl)).symm.trans h0_) (by decide), Q_X6_, Q_X7_, Q_X8_⟩
  refine steps_cons ?_ ?_
  ·rintro b a w' ⟨g4, g5, g6, m6_, m7_, m8_, ha, qK1, qK2, qK3, Q_HB, qN5_4, qN4_5, qN6_4, qN4_6, qN6_5, qN5_6, qK4, qW4, qE4, qN1_4, qN4_1, qN2_4, qN4_2, qN3_4, qN4_3, qK5, qW5, qE5, qN1_5, qN5_1, qN2_5, qN5_2, qN3_5, qN5_3, qK6, qW6, qE6, qN1_6, qN6_1, qN2_6, qN6_2, qN3_6, qN6_3, qK4_e9, qK5_e10, qK6_e11, Q_X6_, Q_X7_, Q_X8_⟩ hb_ hon hoff
   refine ⟨_, rfl, fun K hK => ?_⟩
   have e15 : a.tmps[15]? = some (.agg #[.int .i64 a2_0, .int .i64 a2_1, .int .i64 a2_2, .int .i64 a2_3]) := by rw [ha]; exact putSel_on (e := (4, 15, .agg #[.int .i64 a2_0, .int .i64 a2_1, .int .i64 a2_2, .int .i64 a2_3])) 4 rfl rfl (hon 4 (by kernel_rfl)) rfl
   replace ha := Aside0.mk ha
   have bK1 := Aside0.mk qK1
   have bK2 := Aside0.mk qK2
   have bK3 := Aside0.mk qK3
   have HB := Aside0.mk Q_HB
   refine goes_ Try.func149 (by kernel_rfl) rfl #[.agg #[.int .i64 a2_0, .int .i64 a2_1, .int .i64 a2_2, .int .i64 a2_3]] (by rfl) rfl rfl (by first | (simp only [List.map_toArray, List.map_cons, List.map_nil, Act.eval, Array.getD_eq_getD_getElem?, Option.getD_some, e15]; done) | (simp only [List.map_toArray, List.map_cons, List.map_nil, Act.eval, Array.getD_eq_getD_getElem?, Option.getD_some, e15]; rfl)) ?_
   with_reducible refine (impl_normal.calls a2_0 a2_1 a2_2 a2_3 t316 t317 t318 _ A6.out).mono ?_
   rintro e w84 ⟨rfl, hb⟩
   refine ⟨_, rfl, ?_⟩
   have n0_ := kb bK1 hb
   have n1_ := kb bK2 hb
   have n2_ := kb bK3 hb
   have n3_ := bt HB hb
   have zK4 := fun (h0_ : b 6 = true) (h1_ : b 9 = false) => (show w84.heap[g4]? = some (.cells #[.int .i64 0, .int .i64 0, .int .i64 0] 128 (0, 0)) from by first | exact (blk_below (g := g4) (o := .cells #[.int .i64 0, .int .i64 0, .int .i64 0] 128 (0, 0)) (by (with_reducible repeat (first | refine blk_drewN ?_ _ | refine blk_drew ?_ | refine blk_alloc ?_ _)); exact (qK4 h0_ h1_)) hb))
   have zK5 := fun (h0_ : b 7 = true) (h1_ : b 10 = false) => (show w84.heap[g5]? = some (.cells #[.int .i64 0, .int .i64 0, .int .i64 0] 128 (0, 0)) from by first | exact (blk_below (g := g5) (o := .cells #[.int .i64 0, .int .i64 0, .int .i64 0] 128 (0, 0)) (by (with_reducible repeat (first | refine blk_drewN ?_ _ | refine blk_drew ?_ | refine blk_alloc ?_ _)); exact (qK5 h0_ h1_)) hb))
   have zK6 := fun (h0_ : b 8 = true) (h1_ : b 11 = false) => (show w84.heap[g6]? = some (.cells #[.int .i64 0, .int .i64 0, .int .i64 0] 128 (0, 0)) from by first | exact (blk_below (g := g6) (o := .cells #[.int .i64 0, .int .i64 0, .int .i64 0] 128 (0, 0)) (by (with_reducible repeat (first | refine blk_drewN ?_ _ | refine blk_drew ?_ | refine blk_alloc ?_ _)); exact (qK6 h0_ h1_)) hb))
   clear bK1
   clear bK2
   clear bK3
   clear HB
   have bK1 := n0_
   have bK2 := n1_
   have bK3 := n2_
   have HB := n3_
   clear n0_ n1_ n2_ n3_
   (try clear hb)
   (try clear hb2)
   (try clear hk)
   (try clear hi)
   refine hK.out _ _ ⟨g4, g5, g6, m6_, m7_, m8_, (by rw [ha.out]; exact putSel_upk 5 hb_ rfl rfl rfl), (kbx bK1), (kbx bK2), (kbx bK3), (hbx HB), qN5_4, qN4_5, qN6_4, qN4_6, qN6_5, qN5_6, zK4, qW4, qE4, qN1_4, qN4_1, qN2_4, qN4_2, qN3_4, qN4_3, zK5, qW5, qE5, qN1_5, qN5_1, qN2_5, qN5_2, qN3_5, qN5_3, zK6, qW6, qE6, qN1_6, qN6_1, qN2_6, qN6_2, qN3_6, qN6_3, fun h0_ => absurd ((hoff 9 (by kernel_rfl)).symm.trans h0_) (by decide), fun h0_ => absurd ((hoff 10 (by kernel_rfl)).symm.trans h0_) (by decide), fun h0_ => absurd ((hoff 11 (by kernel_rfl)).symm.trans h0_) (by decide), Q_X6_, Q_X7_, Q_X8_⟩
  refine steps_cons ?_ ?_
  ·rintro b a w' ⟨g4, g5, g6, m6_, m7_, m8_, ha, qK1, qK2, qK3, Q_HB, qN5_4, qN4_5, qN6_4, qN4_6, qN6_5, qN5_6, qK4, qW4, qE4, qN1_4, qN4_1, qN2_4, qN4_2, qN3_4, qN4_3, qK5, qW5, qE5, qN1_5, qN5_1, qN2_5, qN5_2, qN3_5, qN5_3, qK6, qW6, qE6, qN1_6, qN6_1, qN2_6, qN6_2, qN3_6, qN6_3, qK4_e9, qK5_e10, qK6_e11, Q_X6_, Q_X7_, Q_X8_⟩ hb_ hon hoff
   refine ⟨_, rfl, fun K hK => ?_⟩
   replace ha := Aside0.mk ha
   have bK1 := Aside0.mk qK1
   have bK2 := Aside0.mk qK2
   have bK3 := Aside0.mk qK3
   have HB := Aside0.mk Q_HB
   refine box_step ?hg (N := 7) ?hd (cs := #[.int .i64 0, .int .i64 0, .int .i64 0]) (t := 128) ?hr ?_; (case hd => rfl); (case hg => rfl); (case hr => first | (go_simp; done) | (go_simp; rfl))
   intro g4 hg w81 hbox hb
   have n0_ := kb bK1 hb
   have n1_ := kb bK2 hb
   have n2_ := kb bK3 hb
   have n3_ := bt HB hb
   have n4_ := Aside0.mk (hbox)
   have n5_ := gx hg HB
   have n6_ := gx hg HB
   have n7_ := nl hg bK1
   have n8_ := nr hg bK1
   have n9_ := nl hg bK2
   have n10_ := nr hg bK2
   have n11_ := nl hg bK3
   have n12_ := nr hg bK3
   have zN5_4 := fun (h0_ : up b 6 6 = true) (h1_ : up b 6 7 = true) => (show g5 ≠ g4 from (by cases hq_ : b 10 with | false => exact ((by rw [hg]; exact Nat.ne_of_lt (blk_lt (g := g5) (by (with_reducible repeat (first | refine blk_drewN ?_ _ | refine blk_drew ?_ | refine blk_alloc ?_ _)); exact (qK5 h1_ hq_))) : g5 ≠ g4)) | true => exact ((by rw [hg]; exact Nat.ne_of_lt (blk_lt (g := g5) (by (with_reducible repeat (first | refine blk_drewN ?_ _ | refine blk_drew ?_ | refine blk_alloc ?_ _)); exact (qK5_e10 hq_))) : g5 ≠ g4))))
   have zN4_5 := fun (h0_ : up b 6 6 = true) (h1_ : up b 6 7 = true) => (show g4 ≠ g5 from (by cases hq_ : b 10 with | false => exact ((by rw [hg]; exact Nat.ne_of_gt (blk_lt (g := g5) (by (with_reducible repeat (first | refine blk_drewN ?_ _ | refine blk_drew ?_ | refine blk_alloc ?_ _)); exact (qK5 h1_ hq_))) : g4 ≠ g5)) | true => exact ((by rw [hg]; exact Nat.ne_of_gt (blk_lt (g := g5) (by (with_reducible repeat (first | refine blk_drewN ?_ _ | refine blk_drew ?_ | refine blk_alloc ?_ _)); exact (qK5_e10 hq_))) : g4 ≠ g5))))
   have zN6_4 := fun (h0_ : up b 6 6 = true) (h1_ : up b 6 8 = true) => (show g6 ≠ g4 from (by cases hq_ : b 11 with | false => exact ((by rw [hg]; exact Nat.ne_of_lt (blk_lt (g := g6) (by (with_reducible repeat (first | refine blk_drewN ?_ _ | refine blk_drew ?_ | refine blk_alloc ?_ _)); exact (qK6 h1_ hq_))) : g6 ≠ g4)) | true => exact ((by rw [hg]; exact Nat.ne_of_lt (blk_lt (g := g6) (by (with_reducible repeat (first | refine blk_drewN ?_ _ | refine blk_drew ?_ | refine blk_alloc ?_ _)); exact (qK6_e11 hq_))) : g6 ≠ g4))))
   have zN4_6 := fun (h0_ : up b 6 6 = true) (h1_ : up b 6 8 = true) => (show g4 ≠ g6 from (by cases hq_ : b 11 with | false => exact ((by rw [hg]; exact Nat.ne_of_gt (blk_lt (g := g6) (by (with_reducible repeat (first | refine blk_drewN ?_ _ | refine blk_drew ?_ | refine blk_alloc ?_ _)); exact (qK6 h1_ hq_))) : g4 ≠ g6)) | true => exact ((by rw [hg]; exact Nat.ne_of_gt (blk_lt (g := g6) (by (with_reducible repeat (first | refine blk_drewN ?_ _ | refine blk_drew ?_ | refine blk_alloc ?_ _)); exact (qK6_e11 hq_))) : g4 ≠ g6))))
   have zK5 := fun (h0_ : b 7 = true) (h1_ : b 10 = false) => (show w81.heap[g5]? = some (.cells #[.int .i64 0, .int .i64 0, .int .i64 0] 128 (0, 0)) from by first | exact (blk_below (g := g5) (o := .cells #[.int .i64 0, .int .i64 0, .int .i64 0] 128 (0, 0)) (by (with_reducible repeat (first | refine blk_drewN ?_ _ | refine blk_drew ?_ | refine blk_alloc ?_ _)); exact (qK5 h0_ h1_)) hb))
   have zK6 := fun (h0_ : b 8 = true) (h1_ : b 11 = false) => (show w81.heap[g6]? = some (.cells #[.int .i64 0, .int .i64 0, .int .i64 0] 128 (0, 0)) from by first | exact (blk_below (g := g6) (o := .cells #[.int .i64 0, .int .i64 0, .int .i64 0] 128 (0, 0)) (by (with_reducible repeat (first | refine blk_drewN ?_ _ | refine blk_drew ?_ | refine blk_alloc ?_ _)); exact (qK6 h0_ h1_)) hb))
   clear bK1
   clear bK2
   clear bK3
   clear HB
   have bK1 := n0_
   have bK2 := n1_
   have bK3 := n2_
   have HB := n3_
   have bK4 := n4_
   have bW4 := n5_
   have bE4 := n6_
   have bN1_4 := n7_
   have bN4_1 := n8_
   have bN2_4 := n9_
   have bN4_2 := n10_
   have bN3_4 := n11_
   have bN4_3 := n12_
   clear n0_ n1_ n2_ n3_ n4_ n5_ n6_ n7_ n8_ n9_ n10_ n11_ n12_
   clear hb hbox hg
   refine hK.out _ _ ⟨g4, g5, g6, (.pointer (some ⟨g4, 0, none⟩)), m7_, m8_, (by rw [ha.out]; exact putSel_upk 6 hb_ rfl rfl rfl), (kbx bK1), (kbx bK2), (kbx bK3), (hbx HB), zN5_4, zN4_5, zN6_4, zN4_6, qN6_5, qN5_6, fun _ _ => (kbx bK4), fun _ => bW4.out, fun _ => bE4.out, fun _ => bN1_4.out, fun _ => bN4_1.out, fun _ => bN2_4.out, fun _ => bN4_2.out, fun _ => bN3_4.out, fun _ => bN4_3.out, zK5, qW5, qE5, qN1_5, qN5_1, qN2_5, qN5_2, qN3_5, qN5_3, zK6, qW6, qE6, qN1_6, qN6_1, qN2_6, qN6_2, qN3_6, qN6_3, fun h0_ => absurd ((hoff 9 (by kernel_rfl)).symm.trans h0_) (by decide), fun h0_ => absurd ((hoff 10 (by kernel_rfl)).symm.trans h0_) (by decide), fun h0_ => absurd ((hoff 11 (by kernel_rfl)).symm.trans h0_) (by decide), fun _ => rfl, Q_X7_, Q_X8_⟩
  refine steps_cons ?_ ?_
  ·rintro b a w' ⟨g4, g5, g6, m6_, m7_, m8_, ha, qK1, qK2, qK3, Q_HB, qN5_4, qN4_5, qN6_4, qN4_6, qN6_5, qN5_6, qK4, qW4, qE4, qN1_4, qN4_1, qN2_4, qN4_2, qN3_4, qN4_3, qK5, qW5, qE5, qN1_5, qN5_1, qN2_5, qN5_2, qN3_5, qN5_3, qK6, qW6, qE6, qN1_6, qN6_1, qN2_6, qN6_2, qN3_6, qN6_3, qK4_e9, qK5_e10, qK6_e11, Q_X6_, Q_X7_, Q_X8_⟩ hb_ hon hoff
   refine ⟨_, rfl, fun K hK => ?_⟩
   replace ha := Aside0.mk ha
   have bK1 := Aside0.mk qK1
   have bK2 := Aside0.mk qK2
   have bK3 := Aside0.mk qK3
   have HB := Aside0.mk Q_HB
   refine box_step ?hg (N := 8) ?hd (cs := #[.int .i64 0, .int .i64 0, .int .i64 0]) (t := 128) ?hr ?_; (case hd => rfl); (case hg => rfl); (case hr => first | (go_simp; done) | (go_simp; rfl))
   intro g5 hg w81 hbox hb
   have n0_ := kb bK1 hb
   have n1_ := kb bK2 hb
   have n2_ := kb bK3 hb
   have n3_ := bt HB hb
   have n4_ := Aside0.mk (hbox)
   have n5_ := gx hg HB
   have n6_ := gx hg HB
   have n7_ := nl hg bK1
   have n8_ := nr hg bK1
   have n9_ := nl hg bK2
   have n10_ := nr hg bK2
   have n11_ := nl hg bK3
   have n12_ := nr hg bK3
   have zN5_4 := fun (h0_ : up b 7 6 = true) (h1_ : up b 7 7 = true) => (show g5 ≠ g4 from (by cases hq_ : b 9 with | false => exact ((by rw [hg]; exact Nat.ne_of_gt (blk_lt (g := g4) (by (with_reducible repeat (first | refine blk_drewN ?_ _ | refine blk_drew ?_ | refine blk_alloc ?_ _)); exact (qK4 h0_ hq_))) : g5 ≠ g4)) | true => exact ((by rw [hg]; exact Nat.ne_of_gt (blk_lt (g := g4) (by (with_reducible repeat (first | refine blk_drewN ?_ _ | refine blk_drew ?_ | refine blk_alloc ?_ _)); exact (qK4_e9 hq_))) : g5 ≠ g4))))
   have zN4_5 := fun (h0_ : up b 7 6 = true) (h1_ : up b 7 7 = true) => (show g4 ≠ g5 from (by cases hq_ : b 9 with | false => exact ((by rw [hg]; exact Nat.ne_of_lt (blk_lt (g := g4) (by (with_reducible repeat (first | refine blk_drewN ?_ _ | refine blk_drew ?_ | refine blk_alloc ?_ _)); exact (qK4 h0_ hq_))) : g4 ≠ g5)) | true => exact ((by rw [hg]; exact Nat.ne_of_lt (blk_lt (g := g4) (by (with_reducible repeat (first | refine blk_drewN ?_ _ | refine blk_drew ?_ | refine blk_alloc ?_ _)); exact (qK4_e9 hq_))) : g4 ≠ g5))))
   have zN6_5 := fun (h0_ : up b 7 7 = true) (h1_ : up b 7 8 = true) => (show g6 ≠ g5 from (by cases hq_ : b 11 with | false => exact ((by rw [hg]; exact Nat.ne_of_lt (blk_lt (g := g6) (by (with_reducible repeat (first | refine blk_drewN ?_ _ | refine blk_drew ?_ | refine blk_alloc ?_ _)); exact (qK6 h1_ hq_))) : g6 ≠ g5)) | true => exact ((by rw [hg]; exact Nat.ne_of_lt (blk_lt (g := g6) (by (with_reducible repeat (first | refine blk_drewN ?_ _ | refine blk_drew ?_ | refine blk_alloc ?_ _)); exact (qK6_e11 hq_))) : g6 ≠ g5))))
   have zN5_6 := fun (h0_ : up b 7 7 = true) (h1_ : up b 7 8 = true) => (show g5 ≠ g6 from (by cases hq_ : b 11 with | false => exact ((by rw [hg]; exact Nat.ne_of_gt (blk_lt (g := g6) (by (with_reducible repeat (first | refine blk_drewN ?_ _ | refine blk_drew ?_ | refine blk_alloc ?_ _)); exact (qK6 h1_ hq_))) : g5 ≠ g6)) | true => exact ((by rw [hg]; exact Nat.ne_of_gt (blk_lt (g := g6) (by (with_reducible repeat (first | refine blk_drewN ?_ _ | refine blk_drew ?_ | refine blk_alloc ?_ _)); exact (qK6_e11 hq_))) : g5 ≠ g6))))
   have zK4 := fun (h0_ : b 6 = true) (h1_ : b 9 = false) => (show w81.heap[g4]? = some (.cells #[.int .i64 0, .int .i64 0, .int .i64 0] 128 (0, 0)) from by first | exact (blk_below (g := g4) (o := .cells #[.int .i64 0, .int .i64 0, .int .i64 0] 128 (0, 0)) (by (with_reducible repeat (first | refine blk_drewN ?_ _ | refine blk_drew ?_ | refine blk_alloc ?_ _)); exact (qK4 h0_ h1_)) hb))
   have zK6 := fun (h0_ : b 8 = true) (h1_ : b 11 = false) => (show w81.heap[g6]? = some (.cells #[.int .i64 0, .int .i64 0, .int .i64 0] 128 (0, 0)) from by first | exact (blk_below (g := g6) (o := .cells #[.int .i64 0, .int .i64 0, .int .i64 0] 128 (0, 0)) (by (with_reducible repeat (first | refine blk_drewN ?_ _ | refine blk_drew ?_ | refine blk_alloc ?_ _)); exact (qK6 h0_ h1_)) hb))
   clear bK1
   clear bK2
   clear bK3
   clear HB
   have bK1 := n0_
   have bK2 := n1_
   have bK3 := n2_
   have HB := n3_
   have bK5 := n4_
   have bW5 := n5_
   have bE5 := n6_
   have bN1_5 := n7_
   have bN5_1 := n8_
   have bN2_5 := n9_
   have bN5_2 := n10_
   have bN3_5 := n11_
   have bN5_3 := n12_
   clear n0_ n1_ n2_ n3_ n4_ n5_ n6_ n7_ n8_ n9_ n10_ n11_ n12_
   clear hb hbox hg
   refine hK.out _ _ ⟨g4, g5, g6, m6_, (.pointer (some ⟨g5, 0, none⟩)), m8_, (by rw [ha.out]; exact putSel_upk 7 hb_ rfl rfl rfl), (kbx bK1), (kbx bK2), (kbx bK3), (hbx HB), zN5_4, zN4_5, qN6_4, qN4_6, zN6_5, zN5_6, zK4, qW4, qE4, qN1_4, qN4_1, qN2_4, qN4_2, qN3_4, qN4_3, fun _ _ => (kbx bK5), fun _ => bW5.out, fun _ => bE5.out, fun _ => bN1_5.out, fun _ => bN5_1.out, fun _ => bN2_5.out, fun _ => bN5_2.out, fun _ => bN3_5.out, fun _ => bN5_3.out, zK6, qW6, qE6, qN1_6, qN6_1, qN2_6, qN6_2, qN3_6, qN6_3, fun h0_ => absurd ((hoff 9 (by kernel_rfl)).symm.trans h0_) (by decide), fun h0_ => absurd ((hoff 10 (by kernel_rfl)).symm.trans h0_) (by decide), fun h0_ => absurd ((hoff 11 (by kernel_rfl)).symm.trans h0_) (by decide), Q_X6_, fun _ => rfl, Q_X8_⟩
  refine steps_cons ?_ ?_
  ·rintro b a w' ⟨g4, g5, g6, m6_, m7_, m8_, ha, qK1, qK2, qK3, Q_HB, qN5_4, qN4_5, qN6_4, qN4_6, qN6_5, qN5_6, qK4, qW4, qE4, qN1_4, qN4_1, qN2_4, qN4_2, qN3_4, qN4_3, qK5, qW5, qE5, qN1_5, qN5_1, qN2_5, qN5_2, qN3_5, qN5_3, qK6, qW6, qE6, qN1_6, qN6_1, qN2_6, qN6_2, qN3_6, qN6_3, qK4_e9, qK5_e10, qK6_e11, Q_X6_, Q_X7_, Q_X8_⟩ hb_ hon hoff
   refine ⟨_, rfl, fun K hK => ?_⟩
   replace ha := Aside0.mk ha
   have bK1 := Aside0.mk qK1
   have bK2 := Aside0.mk qK2
   have bK3 := Aside0.mk qK3
   have HB := Aside0.mk Q_HB
   refine box_step ?hg (N := 9) ?hd (cs := #[.int .i64 0, .int .i64 0, .int .i64 0]) (t := 128) ?hr ?_; (case hd => rfl); (case hg => rfl); (case hr => first | (go_simp; done) | (go_simp; rfl))
   intro g6 hg w81 hbox hb
   have n0_ := kb bK1 hb
   have n1_ := kb bK2 hb
   have n2_ := kb bK3 hb
   have n3_ := bt HB hb
   have n4_ := Aside0.mk (hbox)
   have n5_ := gx hg HB
   have n6_ := gx hg HB
   have n7_ := nl hg bK1
   have n8_ := nr hg bK1
   have n9_ := nl hg bK2
   have n10_ := nr hg bK2
   have n11_ := nl hg bK3
   have n12_ := nr hg bK3
   have zN6_4 := fun (h0_ : up b 8 6 = true) (h1_ : up b 8 8 = true) => (show g6 ≠ g4 from (by cases hq_ : b 9 with | false => exact ((by rw [hg]; exact Nat.ne_of_gt (blk_lt (g := g4) (by (with_reducible repeat (first | refine blk_drewN ?_ _ | refine blk_drew ?_ | refine blk_alloc ?_ _)); exact (qK4 h0_ hq_))) : g6 ≠ g4)) | true => exact ((by rw [hg]; exact Nat.ne_of_gt (blk_lt (g := g4) (by (with_reducible repeat (first | refine blk_drewN ?_ _ | refine blk_drew ?_ | refine blk_alloc ?_ _)); exact (qK4_e9 hq_))) : g6 ≠ g4))))
   have zN4_6 := fun (h0_ : up b 8 6 = true) (h1_ : up b 8 8 = true) => (show g4 ≠ g6 from (by cases hq_ : b 9 with | false => exact ((by rw [hg]; exact Nat.ne_of_lt (blk_lt (g := g4) (by (with_reducible repeat (first | refine blk_drewN ?_ _ | refine blk_drew ?_ | refine blk_alloc ?_ _)); exact (qK4 h0_ hq_))) : g4 ≠ g6)) | true => exact ((by rw [hg]; exact Nat.ne_of_lt (blk_lt (g := g4) (by (with_reducible repeat (first | refine blk_drewN ?_ _ | refine blk_drew ?_ | refine blk_alloc ?_ _)); exact (qK4_e9 hq_))) : g4 ≠ g6))))
   have zN6_5 := fun (h0_ : up b 8 7 = true) (h1_ : up b 8 8 = true) => (show g6 ≠ g5 from (by cases hq_ : b 10 with | false => exact ((by rw [hg]; exact Nat.ne_of_gt (blk_lt (g := g5) (by (with_reducible repeat (first | refine blk_drewN ?_ _ | refine blk_drew ?_ | refine blk_alloc ?_ _)); exact (qK5 h0_ hq_))) : g6 ≠ g5)) | true => exact ((by rw [hg]; exact Nat.ne_of_gt (blk_lt (g := g5) (by (with_reducible repeat (first | refine blk_drewN ?_ _ | refine blk_drew ?_ | refine blk_alloc ?_ _)); exact (qK5_e10 hq_))) : g6 ≠ g5))))
   have zN5_6 := fun (h0_ : up b 8 7 = true) (h1_ : up b 8 8 = true) => (show g5 ≠ g6 from (by cases hq_ : b 10 with | false => exact ((by rw [hg]; exact Nat.ne_of_lt (blk_lt (g := g5) (by (with_reducible repeat (first | refine blk_drewN ?_ _ | refine blk_drew ?_ | refine blk_alloc ?_ _)); exact (qK5 h0_ hq_))) : g5 ≠ g6)) | true => exact ((by rw [hg]; exact Nat.ne_of_lt (blk_lt (g := g5) (by (with_reducible repeat (first | refine blk_drewN ?_ _ | refine blk_drew ?_ | refine blk_alloc ?_ _)); exact (qK5_e10 hq_))) : g5 ≠ g6))))
   have zK4 := fun (h0_ : b 6 = true) (h1_ : b 9 = false) => (show w81.heap[g4]? = some (.cells #[.int .i64 0, .int .i64 0, .int .i64 0] 128 (0, 0)) from by first | exact (blk_below (g := g4) (o := .cells #[.int .i64 0, .int .i64 0, .int .i64 0] 128 (0, 0)) (by (with_reducible repeat (first | refine blk_drewN ?_ _ | refine blk_drew ?_ | refine blk_alloc ?_ _)); exact (qK4 h0_ h1_)) hb))
   have zK5 := fun (h0_ : b 7 = true) (h1_ : b 10 = false) => (show w81.heap[g5]? = some (.cells #[.int .i64 0, .int .i64 0, .int .i64 0] 128 (0, 0)) from by first | exact (blk_below (g := g5) (o := .cells #[.int .i64 0, .int .i64 0, .int .i64 0] 128 (0, 0)) (by (with_reducible repeat (first | refine blk_drewN ?_ _ | refine blk_drew ?_ | refine blk_alloc ?_ _)); exact (qK5 h0_ h1_)) hb))
   clear bK1
   clear bK2
   clear bK3
   clear HB
   have bK1 := n0_
   have bK2 := n1_
   have bK3 := n2_
   have HB := n3_
   have bK6 := n4_
   have bW6 := n5_
   have bE6 := n6_
   have bN1_6 := n7_
   have bN6_1 := n8_
   have bN2_6 := n9_
   have bN6_2 := n10_
   have bN3_6 := n11_
   have bN6_3 := n12_
   clear n0_ n1_ n2_ n3_ n4_ n5_ n6_ n7_ n8_ n9_ n10_ n11_ n12_
   clear hb hbox hg
   refine hK.out _ _ ⟨g4, g5, g6, m6_, m7_, (.pointer (some ⟨g6, 0, none⟩)), (by rw [ha.out]; exact putSel_upk 8 hb_ rfl rfl rfl), (kbx bK1), (kbx bK2), (kbx bK3), (hbx HB), qN5_4, qN4_5, zN6_4, zN4_6, zN6_5, zN5_6, zK4, qW4, qE4, qN1_4, qN4_1, qN2_4, qN4_2, qN3_4, qN4_3, zK5, qW5, qE5, qN1_5, qN5_1, qN2_5, qN5_2, qN3_5, qN5_3, fun _ _ => (kbx bK6), fun _ => bW6.out, fun _ => bE6.out, fun _ => bN1_6.out, fun _ => bN6_1.out, fun _ => bN2_6.out, fun _ => bN6_2.out, fun _ => bN3_6.out, fun _ => bN6_3.out, fun h0_ => absurd ((hoff 9 (by kernel_rfl)).symm.trans h0_) (by decide), fun h0_ => absurd ((hoff 10 (by kernel_rfl)).symm.trans h0_) (by decide), fun h0_ => absurd ((hoff 11 (by kernel_rfl)).symm.trans h0_) (by decide), Q_X6_, Q_X7_, fun _ => rfl⟩
  refine steps_cons ?_ ?_
  ·rintro b a w' ⟨g4, g5, g6, m6_, m7_, m8_, ha, qK1, qK2, qK3, Q_HB, qN5_4, qN4_5, qN6_4, qN4_6, qN6_5, qN5_6, qK4, qW4, qE4, qN1_4, qN4_1, qN2_4, qN4_2, qN3_4, qN4_3, qK5, qW5, qE5, qN1_5, qN5_1, qN2_5, qN5_2, qN3_5, qN5_3, qK6, qW6, qE6, qN1_6, qN6_1, qN2_6, qN6_2, qN3_6, qN6_3, qK4_e9, qK5_e10, qK6_e11, Q_X6_, Q_X7_, Q_X8_⟩ hb_ hon hoff
   refine ⟨_, rfl, fun K hK => ?_⟩
   have e7 : a.tmps[7]? = some (m6_) := by rw [ha]; exact putSel_on (e := (6, 7, m6_)) 6 rfl rfl (hon 6 (by kernel_rfl)) rfl
   rw [Q_X6_ (hon 6 (by kernel_rfl))] at e7
   have e12 : a.tmps[12]? = some (.agg #[.int .i64 t310, .int .i64 t311, .int .i64 t312]) := by rw [ha]; exact putSel_on (e := (1, 12, .agg #[.int .i64 t310, .int .i64 t311, .int .i64 t312])) 1 rfl rfl (hon 1 (by kernel_rfl)) rfl
   replace ha := Aside0.mk ha
   have bK1 := Aside0.mk qK1
   have bK2 := Aside0.mk qK2
   have bK3 := Aside0.mk qK3
   have HB := Aside0.mk Q_HB
   have bN5_4 := Aside0.mk (qN5_4 (hon 6 (by kernel_rfl)) (hon 7 (by kernel_rfl)))
   have bN4_5 := Aside0.mk (qN4_5 (hon 6 (by kernel_rfl)) (hon 7 (by kernel_rfl)))
   have bN6_4 := Aside0.mk (qN6_4 (hon 6 (by kernel_rfl)) (hon 8 (by kernel_rfl)))
   have bN4_6 := Aside0.mk (qN4_6 (hon 6 (by kernel_rfl)) (hon 8 (by kernel_rfl)))
   have bN6_5 := Aside0.mk (qN6_5 (hon 7 (by kernel_rfl)) (hon 8 (by kernel_rfl)))
   have bN5_6 := Aside0.mk (qN5_6 (hon 7 (by kernel_rfl)) (hon 8 (by kernel_rfl)))
   have bK4 := Aside0.mk (qK4 (hon 6 (by kernel_rfl)) hb_)
   have bW4 := Aside0.mk (qW4 (hon 6 (by kernel_rfl)))
   have bE4 := Aside0.mk (qE4 (hon 6 (by kernel_rfl)))
   have bN1_4 := Aside0.mk (qN1_4 (hon 6 (by kernel_rfl)))
   have bN4_1 := Aside0.mk (qN4_1 (hon 6 (by kernel_rfl)))
   have bN2_4 := Aside0.mk (qN2_4 (hon 6 (by kernel_rfl)))
   have bN4_2 := Aside0.mk (qN4_2 (hon 6 (by kernel_rfl)))
   have bN3_4 := Aside0.mk (qN3_4 (hon 6 (by kernel_rfl)))
   have bN4_3 := Aside0.mk (qN4_3 (hon 6 (by kernel_rfl)))
   have bK5 := Aside0.mk (qK5 (hon 7 (by kernel_rfl)) (hoff 10 (by kernel_rfl)))
   have bW5 := Aside0.mk (qW5 (hon 7 (by kernel_rfl)))
   have bE5 := Aside0.mk (qE5 (hon 7 (by kernel_rfl)))
   have bN1_5 := Aside0.mk (qN1_5 (hon 7 (by kernel_rfl)))
   have bN5_1 := Aside0.mk (qN5_1 (hon 7 (by kernel_rfl)))
   have bN2_5 := Aside0.mk (qN2_5 (hon 7 (by kernel_rfl)))
   have bN5_2 := Aside0.mk (qN5_2 (hon 7 (by kernel_rfl)))
   have bN3_5 := Aside0.mk (qN3_5 (hon 7 (by kernel_rfl)))
   have bN5_3 := Aside0.mk (qN5_3 (hon 7 (by kernel_rfl)))
   have bK6 := Aside0.mk (qK6 (hon 8 (by kernel_rfl)) (hoff 11 (by kernel_rfl)))
   have bW6 := Aside0.mk (qW6 (hon 8 (by kernel_rfl)))
   have bE6 := Aside0.mk (qE6 (hon 8 (by kernel_rfl)))
   have bN1_6 := Aside0.mk (qN1_6 (hon 8 (by kernel_rfl)))
   have bN6_1 := Aside0.mk (qN6_1 (hon 8 (by kernel_rfl)))
   have bN2_6 := Aside0.mk (qN2_6 (hon 8 (by kernel_rfl)))
   have bN6_2 := Aside0.mk (qN6_2 (hon 8 (by kernel_rfl)))
   have bN3_6 := Aside0.mk (qN3_6 (hon 8 (by kernel_rfl)))
   have bN6_3 := Aside0.mk (qN6_3 (hon 8 (by kernel_rfl)))
   have hs88 : w'.cell? ⟨g4, 0, none⟩ = some (.int .i64 0) := (blk_cell bK4.out 0).trans rfl
   have hfs88 := blk_frozen bK4.out 0
   have hns88_0 := bN1_4.out
   have hns88_1 := bN2_4.out
   have hns88_2 := bN3_4.out
   have hns88_4 := bN5_4.out
   have hns88_5 := bN6_4.out
   have hms88_0 := bN4_1.out
   have hms88_1 := bN4_2.out
   have hms88_2 := bN4_3.out
   have hms88_4 := bN4_5.out
   have hms88_5 := bN4_6.out
   have hs89 : w'.cell? ⟨g4, 1, none⟩ = some (.int .i64 0) := (blk_cell bK4.out 1).trans rfl
   have hfs89 := blk_frozen bK4.out 1
   have hns89_0 := bN1_4.out
   have hns89_1 := bN2_4.out
   have hns89_2 := bN3_4.out
   have hns89_4 := bN5_4.out
   have hns89_5 := bN6_4.out
   have hms89_0 := bN4_1.out
   have hms89_1 := bN4_2.out
   have hms89_2 := bN4_3.out
   have hms89_4 := bN4_5.out
   have hms89_5 := bN4_6.out
   have hs90 : w'.cell? ⟨g4, 2, none⟩ = some (.int .i64 0) := (blk_cell bK4.out 2).trans rfl
   have hfs90 := blk_frozen bK4.out 2
   have hns90_0 := bN1_4.out
   have hns90_1 := bN2_4.out
   have hns90_2 := bN3_4.out
   have hns90_4 := bN5_4.out
   have hns90_5 := bN6_4.out
   have hms90_0 := bN4_1.out
   have hms90_1 := bN4_2.out
   have hms90_2 := bN4_3.out
   have hms90_4 := bN4_5.out
   have hms90_5 := bN4_6.out
   refine skip_ (w1 := ?_) (by rfl) rfl ?_ ?_
   rotate_left
   ·go_simp
    rfl
   refine hK.out _ _ ⟨g4, g5, g6, m6_, m7_, m8_, (by rw [ha.out]; exact putSel_none (v := undef) rfl), (kfx bK1), (kfx bK2), (kfx bK3), (hbx HB), fun _ _ => bN5_4.out, fun _ _ => bN4_5.out, fun _ _ => bN6_4.out, fun _ _ => bN4_6.out, fun _ _ => bN6_5.out, fun _ _ => bN5_6.out, fun _ h1_ => absurd ((up_self b 9).symm.trans h1_) (by decide), fun _ => bW4.out, fun _ => bE4.out, fun _ => bN1_4.out, fun _ => bN4_1.out, fun _ => bN2_4.out, fun _ => bN4_2.out, fun _ => bN3_4.out, fun _ => bN4_3.out, fun _ _ => (kfx bK5), fun _ => bW5.out, fun _ => bE5.out, fun _ => bN1_5.out, fun _ => bN5_1.out, fun _ => bN2_5.out, fun _ => bN5_2.out, fun _ => bN3_5.out, fun _ => bN5_3.out, fun _ _ => (kfx bK6), fun _ => bW6.out, fun _ => bE6.out, fun _ => bN1_6.out, fun _ => bN6_1.out, fun _ => bN2_6.out, fun _ => bN6_2.out, fun _ => bN3_6.out, fun _ => bN6_3.out, fun _ => (by (with_reducible repeat (first | refine blk_drewN ?_ _ | refine blk_drew ?_ | refine blk_alloc ?_ _)); refine blk_put (cs := #[.int .i64 t310, .int .i64 t311, .int .i64 0]) ?_ 2 _ rfl; (with_reducible repeat (first | refine blk_drewN ?_ _ | refine blk_drew ?_ | refine blk_alloc ?_ _)); refine blk_put (cs := #[.int .i64 t310, .int .i64 0, .int .i64 0]) ?_ 1 _ rfl; (with_reducible repeat (first | refine blk_drewN ?_ _ | refine blk_drew ?_ | refine blk_alloc ?_ _)); refine blk_put (cs := #[.int .i64 0, .int .i64 0, .int .i64 0]) ?_ 0 _ rfl; (with_reducible repeat (first | refine blk_drewN ?_ _ | refine blk_drew ?_ | refine blk_alloc ?_ _)); exact bK4.out), fun h0_ => absurd ((hoff 10 (by kernel_rfl)).symm.trans h0_) (by decide), fun h0_ => absurd ((hoff 11 (by kernel_rfl)).symm.trans h0_) (by decide), Q_X6_, Q_X7_, Q_X8_⟩
  refine steps_cons ?_ ?_
  ·rintro b a w' ⟨g4, g5, g6, m6_, m7_, m8_, ha, qK1, qK2, qK3, Q_HB, qN5_4, qN4_5, qN6_4, qN4_6, qN6_5, qN5_6, qK4, qW4, qE4, qN1_4, qN4_1, qN2_4, qN4_2, qN3_4, qN4_3, qK5, qW5, qE5, qN1_5, qN5_1, qN2_5, qN5_2, qN3_5, qN5_3, qK6, qW6, qE6, qN1_6, qN6_1, qN2_6, qN6_2, qN3_6, qN6_3, qK4_e9, qK5_e10, qK6_e11, Q_X6_, Q_X7_, Q_X8_⟩ hb_ hon hoff
   refine ⟨_, rfl, fun K hK => ?_⟩
   have e8 : a.tmps[8]? = some (m7_) := by rw [ha]; exact putSel_on (e := (7, 8, m7_)) 7 rfl rfl (hon 7 (by kernel_rfl)) rfl
   rw [Q_X7_ (hon 7 (by kernel_rfl))] at e8
   have e14 : a.tmps[14]? = some (.agg #[.int .i64 t313, .int .i64 t314, .int .i64 t315]) := by rw [ha]; exact putSel_on (e := (3, 14, .agg #[.int .i64 t313, .int .i64 t314, .int .i64 t315])) 3 rfl rfl (hon 3 (by kernel_rfl)) rfl
   replace ha := Aside0.mk ha
   have bK1 := Aside0.mk qK1
   have bK2 := Aside0.mk qK2
   have bK3 := Aside0.mk qK3
   have HB := Aside0.mk Q_HB
   have bN5_4 := Aside0.mk (qN5_4 (hon 6 (by kernel_rfl)) (hon 7 (by kernel_rfl)))
   have bN4_5 := Aside0.mk (qN4_5 (hon 6 (by kernel_rfl)) (hon 7 (by kernel_rfl)))
   have bN6_4 := Aside0.mk (qN6_4 (hon 6 (by kernel_rfl)) (hon 8 (by kernel_rfl)))
   have bN4_6 := Aside0.mk (qN4_6 (hon 6 (by kernel_rfl)) (hon 8 (by kernel_rfl)))
   have bN6_5 := Aside0.mk (qN6_5 (hon 7 (by kernel_rfl)) (hon 8 (by kernel_rfl)))
   have bN5_6 := Aside0.mk (qN5_6 (hon 7 (by kernel_rfl)) (hon 8 (by kernel_rfl)))
   have bW4 := Aside0.mk (qW4 (hon 6 (by kernel_rfl)))
   have bE4 := Aside0.mk (qE4 (hon 6 (by kernel_rfl)))
   have bN1_4 := Aside0.mk (qN1_4 (hon 6 (by kernel_rfl)))
   have bN4_1 := Aside0.mk (qN4_1 (hon 6 (by kernel_rfl)))
   have bN2_4 := Aside0.mk (qN2_4 (hon 6 (by kernel_rfl)))
   have bN4_2 := Aside0.mk (qN4_2 (hon 6 (by kernel_rfl)))
   have bN3_4 := Aside0.mk (qN3_4 (hon 6 (by kernel_rfl)))
   have bN4_3 := Aside0.mk (qN4_3 (hon 6 (by kernel_rfl)))
   have bK5 := Aside0.mk (qK5 (hon 7 (by kernel_rfl)) hb_)
   have bW5 := Aside0.mk (qW5 (hon 7 (by kernel_rfl)))
   have bE5 := Aside0.mk (qE5 (hon 7 (by kernel_rfl)))
   have bN1_5 := Aside0.mk (qN1_5 (hon 7 (by kernel_rfl)))
   have bN5_1 := Aside0.mk (qN5_1 (hon 7 (by kernel_rfl)))
   have bN2_5 := Aside0.mk (qN2_5 (hon 7 (by kernel_rfl)))
   have bN5_2 := Aside0.mk (qN5_2 (hon 7 (by kernel_rfl)))
   have bN3_5 := Aside0.mk (qN3_5 (hon 7 (by kernel_rfl)))
   have bN5_3 := Aside0.mk (qN5_3 (hon 7 (by kernel_rfl)))
   have bK6 := Aside0.mk (qK6 (hon 8 (by kernel_rfl)) (hoff 11 (by kernel_rfl)))
   have bW6 := Aside0.mk (qW6 (hon 8 (by kernel_rfl)))
   have bE6 := Aside0.mk (qE6 (hon 8 (by kernel_rfl)))
   have bN1_6 := Aside0.mk (qN1_6 (hon 8 (by kernel_rfl)))
   have bN6_1 := Aside0.mk (qN6_1 (hon 8 (by kernel_rfl)))
   have bN2_6 := Aside0.mk (qN2_6 (hon 8 (by kernel_rfl)))
   have bN6_2 := Aside0.mk (qN6_2 (hon 8 (by kernel_rfl)))
   have bN3_6 := Aside0.mk (qN3_6 (hon 8 (by kernel_rfl)))
   have bN6_3 := Aside0.mk (qN6_3 (hon 8 (by kernel_rfl)))
   have bK4 := Aside0.mk (qK4_e9 (hon 9 (by kernel_rfl)))
   have hs91 : w'.cell? ⟨g5, 0, none⟩ = some (.int .i64 0) := (blk_cell bK5.out 0).trans rfl
   have hfs91 := blk_frozen bK5.out 0
   have hns91_0 := bN1_5.out
   have hns91_1 := bN2_5.out
   have hns91_2 := bN3_5.out
   have hns91_3 := bN4_5.out
   have hns91_5 := bN6_5.out
   have hms91_0 := bN5_1.out
   have hms91_1 := bN5_2.out
   have hms91_2 := bN5_3.out
   have hms91_3 := bN5_4.out
   have hms91_5 := bN5_6.out
   have hs92 : w'.cell? ⟨g5, 1, none⟩ = some (.int .i64 0) := (blk_cell bK5.out 1).trans rfl
   have hfs92 := blk_frozen bK5.out 1
   have hns92_0 := bN1_5.out
   have hns92_1 := bN2_5.out
   have hns92_2 := bN3_5.out
   have hns92_3 := bN4_5.out
   have hns92_5 := bN6_5.out
   have hms92_0 := bN5_1.out
   have hms92_1 := bN5_2.out
   have hms92_2 := bN5_3.out
   have hms92_3 := bN5_4.out
   have hms92_5 := bN5_6.out
   have hs93 : w'.cell? ⟨g5, 2, none⟩ = some (.int .i64 0) := (blk_cell bK5.out 2).trans rfl
   have hfs93 := blk_frozen bK5.out 2
   have hns93_0 := bN1_5.out
   have hns93_1 := bN2_5.out
   have hns93_2 := bN3_5.out
   have hns93_3 := bN4_5.out
   have hns93_5 := bN6_5.out
   have hms93_0 := bN5_1.out
   have hms93_1 := bN5_2.out
   have hms93_2 := bN5_3.out
   have hms93_3 := bN5_4.out
   have hms93_5 := bN5_6.out
   refine skip_ (w1 := ?_) (by rfl) rfl ?_ ?_
   rotate_left
   ·go_simp
    rfl
   refine hK.out _ _ ⟨g4, g5, g6, m6_, m7_, m8_, (by rw [ha.out]; exact putSel_none (v := undef) rfl), (kfx bK1), (kfx bK2), (kfx bK3), (hbx HB), fun _ _ => bN5_4.out, fun _ _ => bN4_5.out, fun _ _ => bN6_4.out, fun _ _ => bN4_6.out, fun _ _ => bN6_5.out, fun _ _ => bN5_6.out, fun _ h1_ => absurd ((hon 9 (by kernel_rfl)).symm.trans h1_) (by decide), fun _ => bW4.out, fun _ => bE4.out, fun _ => bN1_4.out, fun _ => bN4_1.out, fun _ => bN2_4.out, fun _ => bN4_2.out, fun _ => bN3_4.out, fun _ => bN4_3.out, fun _ h1_ => absurd ((up_self b 10).symm.trans h1_) (by decide), fun _ => bW5.out, fun _ => bE5.out, fun _ => bN1_5.out, fun _ => bN5_1.out, fun _ => bN2_5.out, fun _ => bN5_2.out, fun _ => bN3_5.out, fun _ => bN5_3.out, fun _ _ => (kfx bK6), fun _ => bW6.out, fun _ => bE6.out, fun _ => bN1_6.out, fun _ => bN6_1.out, fun _ => bN2_6.out, fun _ => bN6_2.out, fun _ => bN3_6.out, fun _ => bN6_3.out, fun _ => (kfx bK4), fun _ => (by (with_reducible repeat (first | refine blk_drewN ?_ _ | refine blk_drew ?_ | refine blk_alloc ?_ _)); refine blk_put (cs := #[.int .i64 t313, .int .i64 t314, .int .i64 0]) ?_ 2 _ rfl; (with_reducible repeat (first | refine blk_drewN ?_ _ | refine blk_drew ?_ | refine blk_alloc ?_ _)); refine blk_put (cs := #[.int .i64 t313, .int .i64 0, .int .i64 0]) ?_ 1 _ rfl; (with_reducible repeat (first | refine blk_drewN ?_ _ | refine blk_drew ?_ | refine blk_alloc ?_ _)); refine blk_put (cs := #[.int .i64 0, .int .i64 0, .int .i64 0]) ?_ 0 _ rfl; (with_reducible repeat (first | refine blk_drewN ?_ _ | refine blk_drew ?_ | refine blk_alloc ?_ _)); exact bK5.out), fun h0_ => absurd ((hoff 11 (by kernel_rfl)).symm.trans h0_) (by decide), Q_X6_, Q_X7_, Q_X8_⟩
  refine steps_cons ?_ ?_
  ·rintro b a w' ⟨g4, g5, g6, m6_, m7_, m8_, ha, qK1, qK2, qK3, Q_HB, qN5_4, qN4_5, qN6_4, qN4_6, qN6_5, qN5_6, qK4, qW4, qE4, qN1_4, qN4_1, qN2_4, qN4_2, qN3_4, qN4_3, qK5, qW5, qE5, qN1_5, qN5_1, qN2_5, qN5_2, qN3_5, qN5_3, qK6, qW6, qE6, qN1_6, qN6_1, qN2_6, qN6_2, qN3_6, qN6_3, qK4_e9, qK5_e10, qK6_e11, Q_X6_, Q_X7_, Q_X8_⟩ hb_ hon hoff
   refine ⟨_, rfl, fun K hK => ?_⟩
   have e9 : a.tmps[9]? = some (m8_) := by rw [ha]; exact putSel_on (e := (8, 9, m8_)) 8 rfl rfl (hon 8 (by kernel_rfl)) rfl
   rw [Q_X8_ (hon 8 (by kernel_rfl))] at e9
   have e16 : a.tmps[16]? = some (.agg #[.int .i64 t316, .int .i64 t317, .int .i64 t318]) := by rw [ha]; exact putSel_on (e := (5, 16, .agg #[.int .i64 t316, .int .i64 t317, .int .i64 t318])) 5 rfl rfl (hon 5 (by kernel_rfl)) rfl
   replace ha := Aside0.mk ha
   have bK1 := Aside0.mk qK1
   have bK2 := Aside0.mk qK2
   have bK3 := Aside0.mk qK3
   have HB := Aside0.mk Q_HB
   have bN5_4 := Aside0.mk (qN5_4 (hon 6 (by kernel_rfl)) (hon 7 (by kernel_rfl)))
   have bN4_5 := Aside0.mk (qN4_5 (hon 6 (by kernel_rfl)) (hon 7 (by kernel_rfl)))
   have bN6_4 := Aside0.mk (qN6_4 (hon 6 (by kernel_rfl)) (hon 8 (by kernel_rfl)))
   have bN4_6 := Aside0.mk (qN4_6 (hon 6 (by kernel_rfl)) (hon 8 (by kernel_rfl)))
   have bN6_5 := Aside0.mk (qN6_5 (hon 7 (by kernel_rfl)) (hon 8 (by kernel_rfl)))
   have bN5_6 := Aside0.mk (qN5_6 (hon 7 (by kernel_rfl)) (hon 8 (by kernel_rfl)))
   have bW4 := Aside0.mk (qW4 (hon 6 (by kernel_rfl)))
   have bE4 := Aside0.mk (qE4 (hon 6 (by kernel_rfl)))
   have bN1_4 := Aside0.mk (qN1_4 (hon 6 (by kernel_rfl)))
   have bN4_1 := Aside0.mk (qN4_1 (hon 6 (by kernel_rfl)))
   have bN2_4 := Aside0.mk (qN2_4 (hon 6 (by kernel_rfl)))
   have bN4_2 := Aside0.mk (qN4_2 (hon 6 (by kernel_rfl)))
   have bN3_4 := Aside0.mk (qN3_4 (hon 6 (by kernel_rfl)))
   have bN4_3 := Aside0.mk (qN4_3 (hon 6 (by kernel_rfl)))
   have bW5 := Aside0.mk (qW5 (hon 7 (by kernel_rfl)))
   have bE5 := Aside0.mk (qE5 (hon 7 (by kernel_rfl)))
   have bN1_5 := Aside0.mk (qN1_5 (hon 7 (by kernel_rfl)))
   have bN5_1 := Aside0.mk (qN5_1 (hon 7 (by kernel_rfl)))
   have bN2_5 := Aside0.mk (qN2_5 (hon 7 (by kernel_rfl)))
   have bN5_2 := Aside0.mk (qN5_2 (hon 7 (by kernel_rfl)))
   have bN3_5 := Aside0.mk (qN3_5 (hon 7 (by kernel_rfl)))
   have bN5_3 := Aside0.mk (qN5_3 (hon 7 (by kernel_rfl)))
   have bK6 := Aside0.mk (qK6 (hon 8 (by kernel_rfl)) hb_)
   have bW6 := Aside0.mk (qW6 (hon 8 (by kernel_rfl)))
   have bE6 := Aside0.mk (qE6 (hon 8 (by kernel_rfl)))
   have bN1_6 := Aside0.mk (qN1_6 (hon 8 (by kernel_rfl)))
   have bN6_1 := Aside0.mk (qN6_1 (hon 8 (by kernel_rfl)))
   have bN2_6 := Aside0.mk (qN2_6 (hon 8 (by kernel_rfl)))
   have bN6_2 := Aside0.mk (qN6_2 (hon 8 (by kernel_rfl)))
   have bN3_6 := Aside0.mk (qN3_6 (hon 8 (by kernel_rfl)))
   have bN6_3 := Aside0.mk (qN6_3 (hon 8 (by kernel_rfl)))
   have bK4 := Aside0.mk (qK4_e9 (hon 9 (by kernel_rfl)))
   have bK5 := Aside0.mk (qK5_e10 (hon 10 (by kernel_rfl)))
   have hs94 : w'.cell? ⟨g6, 0, none⟩ = some (.int .i64 0) := (blk_cell bK6.out 0).trans rfl
   have hfs94 := blk_frozen bK6.out 0
   have hns94_0 := bN1_6.out
   have hns94_1 := bN2_6.out
   have hns94_2 := bN3_6.out
   have hns94_3 := bN4_6.out
   have hns94_4 := bN5_6.out
   have hms94_0 := bN6_1.out
   have hms94_1 := bN6_2.out
   have hms94_2 := bN6_3.out
   have hms94_3 := bN6_4.out
   have hms94_4 := bN6_5.out
   have hs95 : w'.cell? ⟨g6, 1, none⟩ = some (.int .i64 0) := (blk_cell bK6.out 1).trans rfl
   have hfs95 := blk_frozen bK6.out 1
   have hns95_0 := bN1_6.out
   have hns95_1 := bN2_6.out
   have hns95_2 := bN3_6.out
   have hns95_3 := bN4_6.out
   have hns95_4 := bN5_6.out
   have hms95_0 := bN6_1.out
   have hms95_1 := bN6_2.out
   have hms95_2 := bN6_3.out
   have hms95_3 := bN6_4.out
   have hms95_4 := bN6_5.out
   have hs96 : w'.cell? ⟨g6, 2, none⟩ = some (.int .i64 0) := (blk_cell bK6.out 2).trans rfl
   have hfs96 := blk_frozen bK6.out 2
   have hns96_0 := bN1_6.out
   have hns96_1 := bN2_6.out
   have hns96_2 := bN3_6.out
   have hns96_3 := bN4_6.out
   have hns96_4 := bN5_6.out
   have hms96_0 := bN6_1.out
   have hms96_1 := bN6_2.out
   have hms96_2 := bN6_3.out
   have hms96_3 := bN6_4.out
   have hms96_4 := bN6_5.out
   refine skip_ (w1 := ?_) (by rfl) rfl ?_ ?_
   rotate_left
   ·go_simp
    rfl
   refine hK.out _ _ ⟨g4, g5, g6, m6_, m7_, m8_, (by rw [ha.out]; exact putSel_none (v := undef) rfl), (kfx bK1), (kfx bK2), (kfx bK3), (hbx HB), fun _ _ => bN5_4.out, fun _ _ => bN4_5.out, fun _ _ => bN6_4.out, fun _ _ => bN4_6.out, fun _ _ => bN6_5.out, fun _ _ => bN5_6.out, fun _ h1_ => absurd ((hon 9 (by kernel_rfl)).symm.trans h1_) (by decide), fun _ => bW4.out, fun _ => bE4.out, fun _ => bN1_4.out, fun _ => bN4_1.out, fun _ => bN2_4.out, fun _ => bN4_2.out, fun _ => bN3_4.out, fun _ => bN4_3.out, fun _ h1_ => absurd ((hon 10 (by kernel_rfl)).symm.trans h1_) (by decide), fun _ => bW5.out, fun _ => bE5.out, fun _ => bN1_5.out, fun _ => bN5_1.out, fun _ => bN2_5.out, fun _ => bN5_2.out, fun _ => bN3_5.out, fun _ => bN5_3.out, fun _ h1_ => absurd ((up_self b 11).symm.trans h1_) (by decide), fun _ => bW6.out, fun _ => bE6.out, fun _ => bN1_6.out, fun _ => bN6_1.out, fun _ => bN2_6.out, fun _ => bN6_2.out, fun _ => bN3_6.out, fun _ => bN6_3.out, fun _ => (kfx bK4), fun _ => (kfx bK5), fun _ => (by (with_reducible repeat (first | refine blk_drewN ?_ _ | refine blk_drew ?_ | refine blk_alloc ?_ _)); refine blk_put (cs := #[.int .i64 t316, .int .i64 t317, .int .i64 0]) ?_ 2 _ rfl; (with_reducible repeat (first | refine blk_drewN ?_ _ | refine blk_drew ?_ | refine blk_alloc ?_ _)); refine blk_put (cs := #[.int .i64 t316, .int .i64 0, .int .i64 0]) ?_ 1 _ rfl; (with_reducible repeat (first | refine blk_drewN ?_ _ | refine blk_drew ?_ | refine blk_alloc ?_ _)); refine blk_put (cs := #[.int .i64 0, .int .i64 0, .int .i64 0]) ?_ 0 _ rfl; (with_reducible repeat (first | refine blk_drewN ?_ _ | refine blk_drew ?_ | refine blk_alloc ?_ _)); exact bK6.out), Q_X6_, Q_X7_, Q_X8_⟩
  exact steps_nil
 rintro b a w96 hall ⟨g4, g5, g6, m6_, m7_, m8_, ha, qK1, qK2, qK3, Q_HB, qN5_4, qN4_5, qN6_4, qN4_6, qN6_5, qN5_6, qK4, qW4, qE4, qN1_4, qN4_1, qN2_4, qN4_2, qN3_4, qN4_3, qK5, qW5, qE5, qN1_5, qN5_1, qN2_5, qN5_2, qN3_5, qN5_3, qK6, qW6, qE6, qN1_6, qN6_1, qN2_6, qN6_2, qN3_6, qN6_3, qK4_e9, qK5_e10, qK6_e11, Q_X6_, Q_X7_, Q_X8_⟩
 clear bK1 bK2 bK3 HB
 have hb0_ := hall 0 (by kernel_rfl)
 have hb1_ := hall 1 (by kernel_rfl)
 have hb2_ := hall 2 (by kernel_rfl)
 have hb3_ := hall 3 (by kernel_rfl)
 have hb4_ := hall 4 (by kernel_rfl)
 have hb5_ := hall 5 (by kernel_rfl)
 have hb6_ := hall 6 (by kernel_rfl)
 have hb7_ := hall 7 (by kernel_rfl)
 have hb8_ := hall 8 (by kernel_rfl)
 have hb9_ := hall 9 (by kernel_rfl)
 have hb10_ := hall 10 (by kernel_rfl)
 have hb11_ := hall 11 (by kernel_rfl)
 subst ha
 obtain rfl := Q_X6_ hb6_
 obtain rfl := Q_X7_ hb7_
 obtain rfl := Q_X8_ hb8_
 simp only [putSel, hb0_, hb1_, hb2_, hb3_, hb4_, hb5_, hb6_, hb7_, hb8_, hb9_, hb10_, hb11_, if_true, Act.put, List.setIfInBounds_toArray, List.set_cons_zero, List.set_cons_succ]
 have bK1 := Aside0.mk qK1
 clear qK1
 have bK2 := Aside0.mk qK2
 clear qK2
 have bK3 := Aside0.mk qK3
 clear qK3
 have HB := Aside0.mk Q_HB
 clear Q_HB
 have bN5_4 := Aside0.mk (qN5_4 hb6_ hb7_)
 clear qN5_4
 have bN4_5 := Aside0.mk (qN4_5 hb6_ hb7_)
 clear qN4_5
 have bN6_4 := Aside0.mk (qN6_4 hb6_ hb8_)
 clear qN6_4
 have bN4_6 := Aside0.mk (qN4_6 hb6_ hb8_)
 clear qN4_6
 have bN6_5 := Aside0.mk (qN6_5 hb7_ hb8_)
 clear qN6_5
 have bN5_6 := Aside0.mk (qN5_6 hb7_ hb8_)
 clear qN5_6
 clear qK4
 have bW4 := Aside0.mk (qW4 hb6_)
 clear qW4
 have bE4 := Aside0.mk (qE4 hb6_)
 clear qE4
 have bN1_4 := Aside0.mk (qN1_4 hb6_)
 clear qN1_4
 have bN4_1 := Aside0.mk (qN4_1 hb6_)
 clear qN4_1
 have bN2_4 := Aside0.mk (qN2_4 hb6_)
 clear qN2_4
 have bN4_2 := Aside0.mk (qN4_2 hb6_)
 clear qN4_2
 have bN3_4 := Aside0.mk (qN3_4 hb6_)
 clear qN3_4
 have bN4_3 := Aside0.mk (qN4_3 hb6_)
 clear qN4_3
 clear qK5
 have bW5 := Aside0.mk (qW5 hb7_)
 clear qW5
 have bE5 := Aside0.mk (qE5 hb7_)
 clear qE5
 have bN1_5 := Aside0.mk (qN1_5 hb7_)
 clear qN1_5
 have bN5_1 := Aside0.mk (qN5_1 hb7_)
 clear qN5_1
 have bN2_5 := Aside0.mk (qN2_5 hb7_)
 clear qN2_5
 have bN5_2 := Aside0.mk (qN5_2 hb7_)
 clear qN5_2
 have bN3_5 := Aside0.mk (qN3_5 hb7_)
 clear qN3_5
 have bN5_3 := Aside0.mk (qN5_3 hb7_)
 clear qN5_3
 clear qK6
 have bW6 := Aside0.mk (qW6 hb8_)
 clear qW6
 have bE6 := Aside0.mk (qE6 hb8_)
 clear qE6
 have bN1_6 := Aside0.mk (qN1_6 hb8_)
 clear qN1_6
 have bN6_1 := Aside0.mk (qN6_1 hb8_)
 clear qN6_1
 have bN2_6 := Aside0.mk (qN2_6 hb8_)
 clear qN2_6
 have bN6_2 := Aside0.mk (qN6_2 hb8_)
 clear qN6_2
 have bN3_6 := Aside0.mk (qN3_6 hb8_)
 clear qN3_6
 have bN6_3 := Aside0.mk (qN6_3 hb8_)
 clear qN6_3
 have bK4 := Aside0.mk (qK4_e9 hb9_)
 clear qK4_e9
 have bK5 := Aside0.mk (qK5_e10 hb10_)
 clear qK5_e10
 have bK6 := Aside0.mk (qK6_e11 hb11_)
 clear qK6_e11
 clear hall hb0_ hb1_ hb2_ hb3_ hb4_ hb5_ hb6_ hb7_ hb8_ hb9_ hb10_ hb11_
 have hnb97 := bN4_1.out
 have hnc97 := bN1_4.out
 have hnb98 := bN4_2.out
 have hnc98 := bN2_4.out
 have hnb99 := bN4_3.out
 have hnc99 := bN3_4.out
 have hnb100 := bN4_5.out
 have hnc100 := bN5_4.out
 have hnb101 := bN4_6.out
 have hnc101 := bN6_4.out
 obtain ⟨hcz102_0, hcz102_1, hcz102_2, hfz102_0, hfz102_1, hfz102_2⟩ := cz3 bK4
 have hnb103 := bN5_1.out
 have hnc103 := bN1_5.out
 have hnb104 := bN5_2.out
 have hnc104 := bN2_5.out
 have hnb105 := bN5_3.out
 have hnc105 := bN3_5.out
 have hnb106 := bN5_6.out
 have hnc106 := bN6_5.out
 obtain ⟨hcz107_0, hcz107_1, hcz107_2, hfz107_0, hfz107_1, hfz107_2⟩ := cz3 bK5
 have hnb108 := bN6_1.out
 have hnc108 := bN1_6.out
 have hnb109 := bN6_2.out
 have hnc109 := bN2_6.out
 have hnb110 := bN6_3.out
 have hnc110 := bN3_6.out
 obtain ⟨hcz111_0, hcz111_1, hcz111_2, hfz111_0, hfz111_1, hfz111_2⟩ := cz3 bK6
 try go_wp2_with (first | ((with_reducible refine gate_callee (f := 171) rfl ?_); refine gL 20 Try.func171 #[.agg #[.int .i64 t310, .int .i64 t311, .int .i64 t312], .agg #[.int .i64 t313, .int .i64 t314, .int .i64 t315], .agg #[.int .i64 t316, .int .i64 t317, .int .i64 t318]] ?_; (with_reducible refine (impl_det.calls t310 t311 t312 t313 t314 t315 t316 t317 t318 t322 _ A7.out).mono ?_); rintro e w112 ⟨rfl, hb⟩; refine ⟨_, rfl, ?_⟩; replace bK1 := kb bK1 hb; replace bK2 := kb bK2 hb; replace bK3 := kb bK3 hb; replace bK4 := kb bK4 hb; replace bK5 := kb bK5 hb; replace bK6 := kb bK6 hb; replace HB := bt HB hb; (try clear hb); (try clear hb2); (try clear hk); (try clear hi)))
 go_ret
 exact fin HB

end Go.Proofs.Ytndedincanmaeaa.Print
