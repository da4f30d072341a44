-- Printed by a program of the session (mkprinter.py, over the kit's print); Lean checks it.
import Derived.Test.YtndedincanmaeaaCp
import Derived.Test.YtndedincanmaeaaPrint0
import Derived.Test.YtndedincanmaeaaPrint11
import Derived.Test.YtndedincanmaeaaPrint14
namespace Go.Proofs.Ytndedincanmaeaa.Print
open Go.RowKit Go.Proofs.YtndedincanmaeaaW.PrintWords Go.Proofs.YtndedincanmaeaaW.PrintLast Go.Proofs.Ytndedincanmaeaa.Cp
set_option linter.unusedVariables false
set_option linter.unusedSimpArgs false

/-! ### impl_clash3: function 165 -/
def impl_clash3.f (k : Nat) (a0_0 : Int) (a0_1 : Int) (a0_2 : Int) (a0_3 : Int) (a1_0 : Int) (a1_1 : Int) (a1_2 : Int) (a1_3 : Int) (a2_0 : Int) (a2_1 : Int) (a2_2 : Int) (a2_3 : Int) : Option (Bool) := (impl_normal.f a0_0 a0_1 a0_2 a0_3).bind fun bt310 => ((impl_normal.f a1_0 a1_1 a1_2 a1_3).bind fun bt313 => ((impl_normal.f a2_0 a2_1 a2_2 a2_3).bind fun bt316 => ((impl_det.f bt310.1 bt310.2.1 bt310.2.2 bt313.1 bt313.2.1 bt313.2.2 bt316.1 bt316.2.1 bt316.2.2).bind fun t322 => (if t322 = 0 then ((impl_crossOf.f bt310.1 bt310.2.1 bt310.2.2 bt313.1 bt313.2.1 bt313.2.2).bind fun bt323 => ((impl_crossOf.f bt313.1 bt313.2.1 bt313.2.2 bt316.1 bt316.2.1 bt316.2.2).bind fun bt327 => ((impl_dot.f bt327.1 bt327.2.1 bt327.2.2 bt323.1 bt323.2.1 bt323.2.2).bind fun t330 => ((impl_crossOf.f bt316.1 bt316.2.1 bt316.2.2 bt310.1 bt310.2.1 bt310.2.2).bind fun bt331 => ((impl_dot.f bt331.1 bt331.2.1 bt331.2.2 bt323.1 bt323.2.1 bt323.2.2).bind fun t334 => ((impl_dot.f bt323.1 bt323.2.1 bt323.2.2 bt323.1 bt323.2.1 bt323.2.2).bind fun t335 => ((impl_weighs.f k (([t330, t334, t335] : List Int)) (([a0_3, a1_3, a2_3] : List Int))).bind fun t342 => (some t342)))))))) else (some false)))))
theorem impl_clash3.mono : ∀ a0 a1 a2 a3 a4 a5 a6 a7 a8 a9 a10 a11 k, LeO (impl_clash3.f k a0 a1 a2 a3 a4 a5 a6 a7 a8 a9 a10 a11) (impl_clash3.f (k + 1) a0 a1 a2 a3 a4 a5 a6 a7 a8 a9 a10 a11) := by
 intro a0 a1 a2 a3 a4 a5 a6 a7 a8 a9 a10 a11 k
 unfold impl_clash3.f
 repeat' first
   | (with_reducible exact impl_weighs.mono _ _ _)
   | (with_reducible exact LeO.refl _)
   | (with_reducible exact LeO.none _)
   | (with_reducible refine LeO.ite ?_ ?_)
   | (with_reducible refine LeO.bind ?_ (fun _ => ?_))
   | exact impl_weighs.mono _ _ _
   | exact LeO.none _
   | refine LeO.ite ?_ ?_
   | refine LeO.bind ?_ (fun _ => ?_)
def impl_clash3.T1 : Bool × List (List Nat × List Nat) := (true, [([], []), ([0], [0]), ([], []), ([2, 1], [2]), ([], []), ([4, 3], [4]), ([], []), ([], []), ([], []), ([6, 1, 5, 0, 1, 6, 7, 8], [1, 6]), ([7, 3, 9, 0, 1, 2, 3, 6, 7, 8, 9], [3, 7]), ([8, 5, 10, 0, 1, 2, 3, 4, 5, 6, 7, 8, 9, 10], [5, 8])])
def impl_clash3.B1 : List Nat := [0, 1, 0, 7, 0, 31, 0, 0, 0, 511, 1023, 2047]
theorem impl_clash3.tab1 : rtab .any (opsOf Try.f165 1) = impl_clash3.T1 := by kernel_rfl
theorem impl_clash3.bits1 : waitsOk impl_clash3.T1.2 impl_clash3.B1 = true := by kernel_rfl
def impl_clash3.T5 : Bool × List (List Nat × List Nat) := (true, [([], []), ([], []), ([0, 1], [0, 1]), ([], []), ([2, 3, 2], [2, 3]), ([], []), ([], []), ([5, 6, 4], [5, 6]), ([], []), ([7, 8, 7], [7, 8]), ([], []), ([], []), ([10, 11, 9], [10, 11]), ([4, 9, 12], [4, 9, 12]), ([], []), ([14], [14]), ([], []), ([16], [16]), ([], []), ([18], [18]), ([15, 17, 19], [15, 17, 19]), ([13, 20, 12], [13, 20]), ([21, 21, 0, 1, 2, 3, 4, 5, 6, 7, 8, 9, 10, 11, 12, 13, 14, 15, 16, 17, 18, 19, 20, 21], [21])])
def impl_clash3.B5 : List Nat := [0, 0, 3, 0, 15, 0, 0, 127, 0, 511, 0, 0, 4095, 8191, 0, 16384, 0, 65536, 0, 262144, 1032192, 2097151, 4194303]
theorem impl_clash3.tab5 : rtab .any (opsOf Try.f165 5) = impl_clash3.T5 := by kernel_rfl
theorem impl_clash3.bits5 : waitsOk impl_clash3.T5.2 impl_clash3.B5 = true := by kernel_rfl
set_option maxHeartbeats 8000000 in
set_option maxRecDepth 100000 in
theorem impl_clash3.calls (k : Nat) (a0_0 : Int) (a0_1 : Int) (a0_2 : Int) (a0_3 : Int) (a1_0 : Int) (a1_1 : Int) (a1_2 : Int) (a1_3 : Int) (a2_0 : Int) (a2_1 : Int) (a2_2 : Int) (a2_3 : Int) (r : Bool) (w : World) (h : impl_clash3.f k a0_0 a0_1 a0_2 a0_3 a1_0 a1_1 a1_2 a1_3 a2_0 a2_1 a2_2 a2_3 = some r) :
  Calls Try.prog 165 #[.agg #[.int .i64 a0_0, .int .i64 a0_1, .int .i64 a0_2, .int .i64 a0_3], .agg #[.int .i64 a1_0, .int .i64 a1_1, .int .i64 a1_2, .int .i64 a1_3], .agg #[.int .i64 a2_0, .int .i64 a2_1, .int .i64 a2_2, .int .i64 a2_3]] w fun e w' => e = .returned (.bool r) ∧ Below w.heap.size w w' := by
 have hu23 := Try.underlying23
 have hu128 := Try.underlying128
 have HB := Aside0.mk (Below.refl w.heap.size w)
 have H : ((impl_normal.f a0_0 a0_1 a0_2 a0_3).bind fun bt310 => ((impl_normal.f a1_0 a1_1 a1_2 a1_3).bind fun bt313 => ((impl_normal.f a2_0 a2_1 a2_2 a2_3).bind fun bt316 => ((impl_det.f bt310.1 bt310.2.1 bt310.2.2 bt313.1 bt313.2.1 bt313.2.2 bt316.1 bt316.2.1 bt316.2.2).bind fun t322 => (if t322 = 0 then ((impl_crossOf.f bt310.1 bt310.2.1 bt310.2.2 bt313.1 bt313.2.1 bt313.2.2).bind fun bt323 => ((impl_crossOf.f bt313.1 bt313.2.1 bt313.2.2 bt316.1 bt316.2.1 bt316.2.2).bind fun bt327 => ((impl_dot.f bt327.1 bt327.2.1 bt327.2.2 bt323.1 bt323.2.1 bt323.2.2).bind fun t330 => ((impl_crossOf.f bt316.1 bt316.2.1 bt316.2.2 bt310.1 bt310.2.1 bt310.2.2).bind fun bt331 => ((impl_dot.f bt331.1 bt331.2.1 bt331.2.2 bt323.1 bt323.2.1 bt323.2.2).bind fun t334 => ((impl_dot.f bt323.1 bt323.2.1 bt323.2.2 bt323.1 bt323.2.1 bt323.2.2).bind fun t335 => ((impl_weighs.f k (([t330, t334, t335] : List Int)) (([a0_3, a1_3, a2_3] : List Int))).bind fun t342 => (some t342)))))))) else (some false)))))) = some r := h
 clear h
 obtain ⟨⟨t310, t311, t312⟩, A4, H⟩ := bi H
 dsimp only at H
 obtain ⟨⟨t313, t314, t315⟩, A5, H⟩ := bi H
 dsimp only at H
 obtain ⟨⟨t316, t317, t318⟩, A6, H⟩ := bi H
 dsimp only at H
 obtain ⟨t322, A7, H⟩ := bi H
 by_cases c8 : t322 = 0
 ·rw [if_pos c8] at H
  have c8b0 : (t322 == 0) = true := beq_iff_eq.mpr c8
  have c8b1 : (t322 != 0) = false := bne_eq_false_iff_eq.mpr c8
  clear c8
  obtain ⟨⟨t323, t324, t325⟩, A9, H⟩ := bi H
  dsimp only at H
  obtain ⟨⟨t327, t328, t329⟩, A10, H⟩ := bi H
  dsimp only at H
  obtain ⟨t330, A11, H⟩ := bi H
  obtain ⟨⟨t331, t332, t333⟩, A12, H⟩ := bi H
  dsimp only at H
  obtain ⟨t334, A13, H⟩ := bi H
  obtain ⟨t335, A14, H⟩ := bi H
  obtain ⟨y336, hy336⟩ : ∃ y_ : List Int, y_ = (([t330, t334, t335] : List Int)) := ⟨_, rfl⟩
  replace H : ((impl_weighs.f k y336 (([a0_3, a1_3, a2_3] : List Int))).bind fun t342 => (some t342)) = some r := by first | (rw [hy336]; with_reducible exact H) | (have H2_ := (Option.bind_some _ _).symm.trans H; rw [hy336]; with_reducible exact H2_) | (have H2_ := (Option.bind_some _ _).symm.trans H; with_reducible exact H2_) | with_reducible exact H | (rw [hy336]; exact H) | exact H
  have Ny336 := Aside0.mk hy336
  clear hy336
  obtain ⟨y339, hy339⟩ : ∃ y_ : List Int, y_ = (([a0_3, a1_3, a2_3] : List Int)) := ⟨_, rfl⟩
  replace H : ((impl_weighs.f k y336 y339).bind fun t342 => (some t342)) = some r := by first | (rw [hy339]; with_reducible exact H) | (have H2_ := (Option.bind_some _ _).symm.trans H; rw [hy339]; with_reducible exact H2_) | (have H2_ := (Option.bind_some _ _).symm.trans H; with_reducible exact H2_) | with_reducible exact H | (rw [hy339]; exact H) | exact H
  have Ny339 := Aside0.mk hy339
  clear hy339
  obtain ⟨t342, A15, H⟩ := bi H
  obtain rfl := Option.some.inj H
  go_enter Try.func165, Try.ntmps165
  try go_wp2_with (first | ((with_reducible refine gate_dst (N := 3) rfl ?_); refine box_event ?hg (N := 3) ?hd (cs := #[.int .i64 a0_0, .int .i64 a0_1, .int .i64 a0_2, .int .i64 a0_3]) (t := 23) ?hr ?_; (case hd => rfl); (case hg => rfl); (case hr => first | (go_simp; done) | (go_simp; rfl)); intro gb307 hg w16 hbox hb; have n0_ := bt HB hb; have n1_ := Aside0.mk (hbox); have n2_ := gx hg HB; have n3_ := gx hg HB; clear HB; have HB := n0_; have BK307 := n1_; have GW307 := n2_; have GE307 := n3_; clear n0_ n1_ n2_ n3_; clear hb hbox hg) | ((with_reducible refine gate_dst (N := 4) rfl ?_); refine box_event ?hg (N := 4) ?hd (cs := #[.int .i64 a1_0, .int .i64 a1_1, .int .i64 a1_2, .int .i64 a1_3]) (t := 23) ?hr ?_; (case hd => rfl); (case hg => rfl); (case hr => first | (go_simp; done) | (go_simp; rfl)); intro gb308 hg w17 hbox hb; have n0_ := kb BK307 hb; have n1_ := bt HB hb; have n2_ := Aside0.mk (hbox); have n3_ := gx hg HB; have n4_ := gx hg HB; have n5_ := nl hg BK307; have n6_ := nr hg BK307; clear BK307; clear HB; have BK307 := n0_; have HB := n1_; have BK308 := n2_; have GW308 := n3_; have GE308 := n4_; have NB307_308 := n5_; have NB308_307 := n6_; clear n0_ n1_ n2_ n3_ n4_ n5_ n6_; clear hb hbox hg) | ((with_reducible refine gate_dst (N := 5) rfl ?_); refine box_event ?hg (N := 5) ?hd (cs := #[.int .i64 a2_0, .int .i64 a2_1, .int .i64 a2_2, .int .i64 a2_3]) (t := 23) ?hr ?_; (case hd => rfl); (case hg => rfl); (case hr => first | (go_simp; done) | (go_simp; rfl)); intro gb309 hg w18 hbox hb; have n0_ := kb BK307 hb; have n1_ := kb BK308 hb; have n2_ := bt HB hb; have n3_ := Aside0.mk (hbox); have n4_ := gx hg HB; have n5_ := gx hg HB; have n6_ := nl hg BK307; have n7_ := nr hg BK307; have n8_ := nl hg BK308; have n9_ := nr hg BK308; clear BK307; clear BK308; clear HB; have BK307 := n0_; have BK308 := n1_; have HB := n2_; have BK309 := n3_; have GW309 := n4_; have GE309 := n5_; have NB307_309 := n6_; have NB309_307 := n7_; have NB308_309 := n8_; have NB309_308 := n9_; clear n0_ n1_ n2_ n3_ n4_ n5_ n6_ n7_ n8_ n9_; clear hb hbox hg))
  have n0_ := Aside0.mk (blk_drew BK307.out)
  have n1_ := Aside0.mk (blk_drew BK308.out)
  have n2_ := Aside0.mk (blk_drew BK309.out)
  have n3_ := Aside0.mk (below_drew1 HB.out)
  clear BK307
  clear BK308
  clear BK309
  clear HB
  have BK307 := n0_
  have BK308 := n1_
  have BK309 := n2_
  have HB := n3_
  clear n0_ n1_ n2_ n3_
  refine start_ (n := 12) (S := fun w' => True) (ds := []) (bl 12 0) (by kernel_rfl) rfl rfl trivial (fun hHeld => ?_); refine with_tabW impl_clash3.tab1 impl_clash3.bits1 (fun HT_ HW_ => ?_)
  generalize w18.drew = w19 at BK307 BK308 BK309 HB hHeld ⊢
  refine inv_at [0, 1, 2, 3, 4, 5, 6, 7, 8, 9, 10, 11] (fun a0_ b a w' => ∃ (gb319 : Nat) (gb320 : Nat) (gb321 : Nat) (m6_ : Value) (m7_ : Value) (m8_ : Value), a = putSel a0_ b [(0, 11, .agg #[.int .i64 a0_0, .int .i64 a0_1, .int .i64 a0_2, .int .i64 a0_3]), (1, 12, .agg #[.int .i64 t310, .int .i64 t311, .int .i64 t312]), (2, 13, .agg #[.int .i64 a1_0, .int .i64 a1_1, .int .i64 a1_2, .int .i64 a1_3]), (3, 14, .agg #[.int .i64 t313, .int .i64 t314, .int .i64 t315]), (4, 15, .agg #[.int .i64 a2_0, .int .i64 a2_1, .int .i64 a2_2, .int .i64 a2_3]), (5, 16, .agg #[.int .i64 t316, .int .i64 t317, .int .i64 t318]), (6, 7, m6_), (7, 8, m7_), (8, 9, m8_)] ∧ (w'.heap[gb307]? = some (.cells #[.int .i64 a0_0, .int .i64 a0_1, .int .i64 a0_2, .int .i64 a0_3] 23 (0, 0))) ∧ (w'.heap[gb308]? = some (.cells #[.int .i64 a1_0, .int .i64 a1_1, .int .i64 a1_2, .int .i64 a1_3] 23 (0, 0))) ∧ (w'.heap[gb309]? = some (.cells #[.int .i64 a2_0, .int .i64 a2_1, .int .i64 a2_2, .int .i64 a2_3] 23 (0, 0))) ∧ (Below w.heap.size w w') ∧ (b 6 = true → b 7 = true → gb320 ≠ gb319) ∧ (b 6 = true → b 7 = true → gb319 ≠ gb320) ∧ (b 6 = true → b 8 = true → gb321 ≠ gb319) ∧ (b 6 = true → b 8 = true → gb319 ≠ gb321) ∧ (b 7 = true → b 8 = true → gb321 ≠ gb320) ∧ (b 7 = true → b 8 = true → gb320 ≠ gb321) ∧ (b 6 = true → b 9 = false → w'.heap[gb319]? = some (.cells #[.int .i64 0, .int .i64 0, .int .i64 0] 128 (0, 0))) ∧ (b 6 = true → w.heap.size ≤ gb319) ∧ (b 6 = true → w.heap.size ≤ gb319) ∧ (b 6 = true → gb307 ≠ gb319) ∧ (b 6 = true → gb319 ≠ gb307) ∧ (b 6 = true → gb308 ≠ gb319) ∧ (b 6 = true → gb319 ≠ gb308) ∧ (b 6 = true → gb309 ≠ gb319) ∧ (b 6 = true → gb319 ≠ gb309) ∧ (b 7 = true → b 10 = false → w'.heap[gb320]? = some (.cells #[.int .i64 0, .int .i64 0, .int .i64 0] 128 (0, 0))) ∧ (b 7 = true → w.heap.size ≤ gb320) ∧ (b 7 = true → w.heap.size ≤ gb320) ∧ (b 7 = true → gb307 ≠ gb320) ∧ (b 7 = true → gb320 ≠ gb307) ∧ (b 7 = true → gb308 ≠ gb320) ∧ (b 7 = true → gb320 ≠ gb308) ∧ (b 7 = true → gb309 ≠ gb320) ∧ (b 7 = true → gb320 ≠ gb309) ∧ (b 8 = true → b 11 = false → w'.heap[gb321]? = some (.cells #[.int .i64 0, .int .i64 0, .int .i64 0] 128 (0, 0))) ∧ (b 8 = true → w.heap.size ≤ gb321) ∧ (b 8 = true → w.heap.size ≤ gb321) ∧ (b 8 = true → gb307 ≠ gb321) ∧ (b 8 = true → gb321 ≠ gb307) ∧ (b 8 = true → gb308 ≠ gb321) ∧ (b 8 = true → gb321 ≠ gb308) ∧ (b 8 = true → gb309 ≠ gb321) ∧ (b 8 = true → gb321 ≠ gb309) ∧ (b 9 = true → w'.heap[gb319]? = some (.cells #[.int .i64 t310, .int .i64 t311, .int .i64 t312] 128 (0, 0))) ∧ (b 10 = true → w'.heap[gb320]? = some (.cells #[.int .i64 t313, .int .i64 t314, .int .i64 t315] 128 (0, 0))) ∧ (b 11 = true → w'.heap[gb321]? = some (.cells #[.int .i64 t316, .int .i64 t317, .int .i64 t318] 128 (0, 0))) ∧ (b 6 = true → (m6_ : Value) = .pointer (some ⟨gb319, 0, none⟩)) ∧ (b 7 = true → (m7_ : Value) = .pointer (some ⟨gb320, 0, none⟩)) ∧ (b 8 = true → (m8_ : Value) = .pointer (some ⟨gb321, 0, none⟩))) HT_.out HW_.out (by kernel_rfl) (by kernel_rfl) ?_ ?_ ?_
  ·exact ⟨0, 0, 0, .bool false, .bool false, .bool false, by simp only [putSel, Bool.false_eq_true, if_false], BK307.out, BK308.out, BK309.out, HB.out, fun h_ => absurd h_ (by decide), fun h_ => absurd h_ (by decide), fun h_ => absurd h_ (by decide), fun h_ => absurd h_ (by decide), fun h_ => absurd h_ (by decide), fun h_ => absurd h_ (by decide), fun h_ => absurd h_ (by decide), fun h_ => absurd h_ (by decide), fun h_ => absurd h_ (by decide), fun h_ => absurd h_ (by decide), fun h_ => absurd h_ (by decide), fun h_ => absurd h_ (by decide), fun h_ => absurd h_ (by decide), fun h_ => absurd h_ (by decide), fun h_ => absurd h_ (by decide), fun h_ => absurd h_ (by decide), fun h_ => absurd h_ (by decide), fun h_ => absurd h_ (by decide), fun h_ => absurd h_ (by decide), fun h_ => absurd h_ (by decide), fun h_ => absurd h_ (by decide), fun h_ => absurd h_ (by decide), fun h_ => absurd h_ (by decide), fun h_ => absurd h_ (by decide), fun h_ => absurd h_ (by decide), fun h_ => absurd h_ (by decide), fun h_ => absurd h_ (by decide), fun h_ => absurd h_ (by decide), fun h_ => absurd h_ (by decide), fun h_ => absurd h_ (by decide), fun h_ => absurd h_ (by decide), fun h_ => absurd h_ (by decide), fun h_ => absurd h_ (by decide), fun h_ => absurd h_ (by decide), fun h_ => absurd h_ (by decide), fun h_ => absurd h_ (by decide), fun h_ => absurd h_ (by decide), fun h_ => absurd h_ (by decide), fun h_ => absurd h_ (by decide)⟩
  ·skip
   clear BK307 BK308 BK309 HB
   refine steps_cons ?_ ?_
   ·rintro b a w' ⟨gb319, gb320, gb321, m6_, m7_, m8_, ha, Q_BK307, Q_BK308, Q_BK309, Q_HB, Q_NB320_319, Q_NB319_320, Q_NB321_319, Q_NB319_321, Q_NB321_320, Q_NB320_321, Q_BK319, Q_GW319, Q_GE319, Q_NB307_319, Q_NB319_307, Q_NB308_319, Q_NB319_308, Q_NB309_319, Q_NB319_309, Q_BK320, Q_GW320, Q_GE320, Q_NB307_320, Q_NB320_307, Q_NB308_320, Q_NB320_308, Q_NB309_320, Q_NB320_309, Q_BK321, Q_GW321, Q_GE321, Q_NB307_321, Q_NB321_307, Q_NB308_321, Q_NB321_308, Q_NB309_321, Q_NB321_309, Q_BK319_e9, Q_BK320_e10, Q_BK321_e11, Q_X6_, Q_X7_, Q_X8_⟩ hb_ hon hoff
    refine ⟨_, rfl, fun K hK => ?_⟩
    have e3 : a.tmps[3]? = some (.pointer (some ⟨gb307, 0, none⟩)) := by rw [ha]; exact (putSel_off rfl).trans rfl
    replace ha := Aside0.mk ha
    have BK307 := Aside0.mk Q_BK307
    have BK308 := Aside0.mk Q_BK308
    have BK309 := Aside0.mk Q_BK309
    have HB := Aside0.mk Q_HB
    have hc0_ : w'.cell? ⟨gb307, 0, none⟩ = some (.int .i64 a0_0) := (blk_cell BK307.out 0).trans rfl
    have hc1_ : w'.cell? ⟨gb307, 1, none⟩ = some (.int .i64 a0_1) := (blk_cell BK307.out 1).trans rfl
    have hc2_ : w'.cell? ⟨gb307, 2, none⟩ = some (.int .i64 a0_2) := (blk_cell BK307.out 2).trans rfl
    have hc3_ : w'.cell? ⟨gb307, 3, none⟩ = some (.int .i64 a0_3) := (blk_cell BK307.out 3).trans rfl
    refine value_ (w1 := w') (v := .agg #[.int .i64 a0_0, .int .i64 a0_1, .int .i64 a0_2, .int .i64 a0_3]) (by rfl) rfl ?_ ?_
    ·go_simp
     (try simp only [i64_w])
     try rfl
    refine hK.out _ _ ⟨gb319, gb320, gb321, m6_, m7_, m8_, (by rw [ha.out]; exact putSel_upk 0 hb_ rfl rfl rfl), Q_BK307, Q_BK308, Q_BK309, Q_HB, Q_NB320_319, Q_NB319_320, Q_NB321_319, Q_NB319_321, Q_NB321_320, Q_NB320_321, Q_BK319, Q_GW319, Q_GE319, Q_NB307_319, Q_NB319_307, Q_NB308_319, Q_NB319_308, Q_NB309_319, Q_NB319_309, Q_BK320, Q_GW320, Q_GE320, Q_NB307_320, Q_NB320_307, Q_NB308_320, Q_NB320_308, Q_NB309_320, Q_NB320_309, Q_BK321, Q_GW321, Q_GE321, Q_NB307_321, Q_NB321_307, Q_NB308_321, Q_NB321_308, Q_NB309_321, Q_NB321_309, fun h0_ => absurd ((hoff 9 (by kernel_rfl)).symm.trans h0_) (by decide), fun h0_ => absurd ((hoff 10 (by kernel_rfl)).symm.trans h0_) (by decide), fun h0_ => absurd ((hoff 11 (by kernel_rfl)).symm.trans h0_) (by decide), Q_X6_, Q_X7_, Q_X8_⟩
   refine steps_cons ?_ ?_
   ·rintro b a w' ⟨gb319, gb320, gb321, m6_, m7_, m8_, ha, Q_BK307, Q_BK308, Q_BK309, Q_HB, Q_NB320_319, Q_NB319_320, Q_NB321_319, Q_NB319_321, Q_NB321_320, Q_NB320_321, Q_BK319, Q_GW319, Q_GE319, Q_NB307_319, Q_NB319_307, Q_NB308_319, Q_NB319_308, Q_NB309_319, Q_NB319_309, Q_BK320, Q_GW320, Q_GE320, Q_NB307_320, Q_NB320_307, Q_NB308_320, Q_NB320_308, Q_NB309_320, Q_NB320_309, Q_BK321, Q_GW321, Q_GE321, Q_NB307_321, Q_NB321_307, Q_NB308_321, Q_NB321_308, Q_NB309_321, Q_NB321_309, Q_BK319_e9, Q_BK320_e10, Q_BK321_e11, Q_X6_, Q_X7_, Q_X8_⟩ hb_ hon hoff
    refine ⟨_, rfl, fun K hK => ?_⟩
    have e11 : a.tmps[11]? = some (.agg #[.int .i64 a0_0, .int .i64 a0_1, .int .i64 a0_2, .int .i64 a0_3]) := by rw [ha]; exact putSel_on (e := (0, 11, .agg #[.int .i64 a0_0, .int .i64 a0_1, .int .i64 a0_2, .int .i64 a0_3])) 0 rfl rfl (hon 0 (by kernel_rfl)) rfl
    replace ha := Aside0.mk ha
    have BK307 := Aside0.mk Q_BK307
    have BK308 := Aside0.mk Q_BK308
    have BK309 := Aside0.mk Q_BK309
    have HB := Aside0.mk Q_HB
    refine goes_ Try.func149 (by kernel_rfl) rfl #[.agg #[.int .i64 a0_0, .int .i64 a0_1, .int .i64 a0_2, .int .i64 a0_3]] (by rfl) rfl rfl (by first | (simp only [List.map_toArray, List.map_cons, List.map_nil, Act.eval, Array.getD_eq_getD_getElem?, Option.getD_some, e11]; done) | (simp only [List.map_toArray, List.map_cons, List.map_nil, Act.eval, Array.getD_eq_getD_getElem?, Option.getD_some, e11]; rfl)) ?_
    with_reducible refine (impl_normal.calls a0_0 a0_1 a0_2 a0_3 t310 t311 t312 _ A4.out).mono ?_
    rintro e w20 ⟨rfl, hb⟩
    refine ⟨_, rfl, ?_⟩
    have n0_ := kb BK307 hb
    have n1_ := kb BK308 hb
    have n2_ := kb BK309 hb
    have n3_ := bt HB hb
    have z_BK319 := fun (h0_ : b 6 = true) (h1_ : b 9 = false) => (show w20.heap[gb319]? = some (.cells #[.int .i64 0, .int .i64 0, .int .i64 0] 128 (0, 0)) from by first | exact (blk_below (g := gb319) (o := .cells #[.int .i64 0, .int .i64 0, .int .i64 0] 128 (0, 0)) (by (with_reducible repeat (first | refine blk_drewN ?_ _ | refine blk_drew ?_ | refine blk_alloc ?_ _)); exact (Q_BK319 h0_ h1_)) hb))
    have z_BK320 := fun (h0_ : b 7 = true) (h1_ : b 10 = false) => (show w20.heap[gb320]? = some (.cells #[.int .i64 0, .int .i64 0, .int .i64 0] 128 (0, 0)) from by first | exact (blk_below (g := gb320) (o := .cells #[.int .i64 0, .int .i64 0, .int .i64 0] 128 (0, 0)) (by (with_reducible repeat (first | refine blk_drewN ?_ _ | refine blk_drew ?_ | refine blk_alloc ?_ _)); exact (Q_BK320 h0_ h1_)) hb))
    have z_BK321 := fun (h0_ : b 8 = true) (h1_ : b 11 = false) => (show w20.heap[gb321]? = some (.cells #[.int .i64 0, .int .i64 0, .int .i64 0] 128 (0, 0)) from by first | exact (blk_below (g := gb321) (o := .cells #[.int .i64 0, .int .i64 0, .int .i64 0] 128 (0, 0)) (by (with_reducible repeat (first | refine blk_drewN ?_ _ | refine blk_drew ?_ | refine blk_alloc ?_ _)); exact (Q_BK321 h0_ h1_)) hb))
    clear BK307
    clear BK308
    clear BK309
    clear HB
    have BK307 := n0_
    have BK308 := n1_
    have BK309 := n2_
    have HB := n3_
    clear n0_ n1_ n2_ n3_
    (try clear hb)
    (try clear hb2)
    (try clear hk)
    (try clear hi)
    refine hK.out _ _ ⟨gb319, gb320, gb321, m6_, m7_, m8_, (by rw [ha.out]; exact putSel_upk 1 hb_ rfl rfl rfl), (kbx BK307), (kbx BK308), (kbx BK309), (hbx HB), Q_NB320_319, Q_NB319_320, Q_NB321_319, Q_NB319_321, Q_NB321_320, Q_NB320_321, z_BK319, Q_GW319, Q_GE319, Q_NB307_319, Q_NB319_307, Q_NB308_319, Q_NB319_308, Q_NB309_319, Q_NB319_309, z_BK320, Q_GW320, Q_GE320, Q_NB307_320, Q_NB320_307, Q_NB308_320, Q_NB320_308, Q_NB309_320, Q_NB320_309, z_BK321, Q_GW321, Q_GE321, Q_NB307_321, Q_NB321_307, Q_NB308_321, Q_NB321_308, Q_NB309_321, Q_NB321_309, fun h0_ => absurd ((hoff 9 (by kernel_rfl)).symm.trans h0_) (by decide), fun h0_ => absurd ((hoff 10 (by kernel_rfl)).symm.trans h0_) (by decide), fun h0_ => absurd ((hoff 11 (by kernel_rfl)).symm.trans h0_) (by decide), Q_X6_, Q_X7_, Q_X8_⟩
   refine steps_cons ?_ ?_
   ·rintro b a w' ⟨gb319, gb320, gb321, m6_, m7_, m8_, ha, Q_BK307, Q_BK308, Q_BK309, Q_HB, Q_NB320_319, Q_NB319_320, Q_NB321_319, Q_NB319_321, Q_NB321_320, Q_NB320_321, Q_BK319, Q_GW319, Q_GE319, Q_NB307_319, Q_NB319_307, Q_NB308_319, Q_NB319_308, Q_NB309_319, Q_NB319_309, Q_BK320, Q_GW320, Q_GE320, Q_NB307_320, Q_NB320_307, Q_NB308_320, Q_NB320_308, Q_NB309_320, Q_NB320_309, Q_BK321, Q_GW321, Q_GE321, Q_NB307_321, Q_NB321_307, Q_NB308_321, Q_NB321_308, Q_NB309_321, Q_NB321_309, Q_BK319_e9, Q_BK320_e10, Q_BK321_e11, Q_X6_, Q_X7_, Q_X8_⟩ hb_ hon hoff
    refine ⟨_, rfl, fun K hK => ?_⟩
    have e4 : a.tmps[4]? = some (.pointer (some ⟨gb308, 0, none⟩)) := by rw [ha]; exact (putSel_off rfl).trans rfl
    replace ha := Aside0.mk ha
    have BK307 := Aside0.mk Q_BK307
    have BK308 := Aside0.mk Q_BK308
    have BK309 := Aside0.mk Q_BK309
    have HB := Aside0.mk Q_HB
    have hc0_ : w'.cell? ⟨gb308, 0, none⟩ = some (.int .i64 a1_0) := (blk_cell BK308.out 0).trans rfl
    have hc1_ : w'.cell? ⟨gb308, 1, none⟩ = some (.int .i64 a1_1) := (blk_cell BK308.out 1).trans rfl
    have hc2_ : w'.cell? ⟨gb308, 2, none⟩ = some (.int .i64 a1_2) := (blk_cell BK308.out 2).trans rfl
    have hc3_ : w'.cell? ⟨gb308, 3, none⟩ = some (.int .i64 a1_3) := (blk_cell BK308.out 3).trans rfl
    refine value_ (w1 := w') (v := .agg #[.int .i64 a1_0, .int .i64 a1_1, .int .i64 a1_2, .int .i64 a1_3]) (by rfl) rfl ?_ ?_
    ·go_simp
     (try simp only [i64_w])
     try rfl
    refine hK.out _ _ ⟨gb319, gb320, gb321, m6_, m7_, m8_, (by rw [ha.out]; exact putSel_upk 2 hb_ rfl rfl rfl), Q_BK307, Q_BK308, Q_BK309, Q_HB, Q_NB320_319, Q_NB319_320, Q_NB321_319, Q_NB319_321, Q_NB321_320, Q_NB320_321, Q_BK319, Q_GW319, Q_GE319, Q_NB307_319, Q_NB319_307, Q_NB308_319, Q_NB319_308, Q_NB309_319, Q_NB319_309, Q_BK320, Q_GW320, Q_GE320, Q_NB307_320, Q_NB320_307, Q_NB308_320, Q_NB320_308, Q_NB309_320, Q_NB320_309, Q_BK321, Q_GW321, Q_GE321, Q_NB307_321, Q_NB321_307, Q_NB308_321, Q_NB321_308, Q_NB309_321, Q_NB321_309, fun h0_ => absurd ((hoff 9 (by kernel_rfl)).symm.trans h0_) (by decide), fun h0_ => absurd ((hoff 10 (by kernel_rfl)).symm.trans h0_) (by decide), fun h0_ => absurd ((hoff 11 (by kernel_rfl)).symm.trans h0_) (by decide), Q_X6_, Q_X7_, Q_X8_⟩
   refine steps_cons ?_ ?_
   ·rintro b a w' ⟨gb319, gb320, gb321, m6_, m7_, m8_, ha, Q_BK307, Q_BK308, Q_BK309, Q_HB, Q_NB320_319, Q_NB319_320, Q_NB321_319, Q_NB319_321, Q_NB321_320, Q_NB320_321, Q_BK319, Q_GW319, Q_GE319, Q_NB307_319, Q_NB319_307, Q_NB308_319, Q_NB319_308, Q_NB309_319, Q_NB319_309, Q_BK320, Q_GW320, Q_GE320, Q_NB307_320, Q_NB320_307, Q_NB308_320, Q_NB320_308, Q_NB309_320, Q_NB320_309, Q_BK321, Q_GW321, Q_GE321, Q_NB307_321, Q_NB321_307, Q_NB308_321, Q_NB321_308, Q_NB309_321, Q_NB321_309, Q_BK319_e9, Q_BK320_e10, Q_BK321_e11, Q_X6_, Q_X7_, Q_X8_⟩ hb_ hon hoff
    refine ⟨_, rfl, fun K hK => ?_⟩
    have e13 : a.tmps[13]? = some (.agg #[.int .i64 a1_0, .int .i64 a1_1, .int .i64 a1_2, .int .i64 a1_3]) := by rw [ha]; exact putSel_on (e := (2, 13, .agg #[.int .i64 a1_0, .int .i64 a1_1, .int .i64 a1_2, .int .i64 a1_3])) 2 rfl rfl (hon 2 (by kernel_rfl)) rfl
    replace ha := Aside0.mk ha
    have BK307 := Aside0.mk Q_BK307
    have BK308 := Aside0.mk Q_BK308
    have BK309 := Aside0.mk Q_BK309
    have HB := Aside0.mk Q_HB
    refine goes_ Try.func149 (by kernel_rfl) rfl #[.agg #[.int .i64 a1_0, .int .i64 a1_1, .int .i64 a1_2, .int .i64 a1_3]] (by rfl) rfl rfl (by first | (simp only [List.map_toArray, List.map_cons, List.map_nil, Act.eval, Array.getD_eq_getD_getElem?, Option.getD_some, e13]; done) | (simp only [List.map_toArray, List.map_cons, List.map_nil, Act.eval, Array.getD_eq_getD_getElem?, Option.getD_some, e13]; rfl)) ?_
    with_reducible refine (impl_normal.calls a1_0 a1_1 a1_2 a1_3 t313 t314 t315 _ A5.out).mono ?_
    rintro e w22 ⟨rfl, hb⟩
    refine ⟨_, rfl, ?_⟩
    have n0_ := kb BK307 hb
    have n1_ := kb BK308 hb
    have n2_ := kb BK309 hb
    have n3_ := bt HB hb
    have z_BK319 := fun (h0_ : b 6 = true) (h1_ : b 9 = false) => (show w22.heap[gb319]? = some (.cells #[.int .i64 0, .int .i64 0, .int .i64 0] 128 (0, 0)) from by first | exact (blk_below (g := gb319) (o := .cells #[.int .i64 0, .int .i64 0, .int .i64 0] 128 (0, 0)) (by (with_reducible repeat (first | refine blk_drewN ?_ _ | refine blk_drew ?_ | refine blk_alloc ?_ _)); exact (Q_BK319 h0_ h1_)) hb))
    have z_BK320 := fun (h0_ : b 7 = true) (h1_ : b 10 = false) => (show w22.heap[gb320]? = some (.cells #[.int .i64 0, .int .i64 0, .int .i64 0] 128 (0, 0)) from by first | exact (blk_below (g := gb320) (o := .cells #[.int .i64 0, .int .i64 0, .int .i64 0] 128 (0, 0)) (by (with_reducible repeat (first | refine blk_drewN ?_ _ | refine blk_drew ?_ | refine blk_alloc ?_ _)); exact (Q_BK320 h0_ h1_)) hb))
    have z_BK321 := fun (h0_ : b 8 = true) (h1_ : b 11 = false) => (show w22.heap[gb321]? = some (.cells #[.int .i64 0, .int .i64 0, .int .i64 0] 128 (0, 0)) from by first | exact (blk_below (g := gb321) (o := .cells #[.int .i64 0, .int .i64 0, .int .i64 0] 128 (0, 0)) (by (with_reducible repeat (first | refine blk_drewN ?_ _ | refine blk_drew ?_ | refine blk_alloc ?_ _)); exact (Q_BK321 h0_ h1_)) hb))
    clear BK307
    clear BK308
    clear BK309
    clear HB
    have BK307 := n0_
    have BK308 := n1_
    have BK309 := n2_
    have HB := n3_
    clear n0_ n1_ n2_ n3_
    (try clear hb)
    (try clear hb2)
    (try clear hk)
    (try clear hi)
    refine hK.out _ _ ⟨gb319, gb320, gb321, m6_, m7_, m8_, (by rw [ha.out]; exact putSel_upk 3 hb_ rfl rfl rfl), (kbx BK307), (kbx BK308), (kbx BK309), (hbx HB), Q_NB320_319, Q_NB319_320, Q_NB321_319, Q_NB319_321, Q_NB321_320, Q_NB320_321, z_BK319, Q_GW319, Q_GE319, Q_NB307_319, Q_NB319_307, Q_NB308_319, Q_NB319_308, Q_NB309_319, Q_NB319_309, z_BK320, Q_GW320, Q_GE320, Q_NB307_320, Q_NB320_307, Q_NB308_320, Q_NB320_308, Q_NB309_320, Q_NB320_309, z_BK321, Q_GW321, Q_GE321, Q_NB307_321, Q_NB321_307, Q_NB308_321, Q_NB321_308, Q_NB309_321, Q_NB321_309, fun h0_ => absurd ((hoff 9 (by kernel_rfl)).symm.trans h0_) (by decide), fun h0_ => absurd ((hoff 10 (by kernel_rfl)).symm.trans h0_) (by decide), fun h0_ => absurd ((hoff 11 (by kernel_rfl)).symm.trans h0_) (by decide), Q_X6_, Q_X7_, Q_X8_⟩
   refine steps_cons ?_ ?_
   ·rintro b a w' ⟨gb319, gb320, gb321, m6_, m7_, m8_, ha, Q_BK307, Q_BK308, Q_BK309, Q_HB, Q_NB320_319, Q_NB319_320, Q_NB321_319, Q_NB319_321, Q_NB321_320, Q_NB320_321, Q_BK319, Q_GW319, Q_GE319, Q_NB307_319, Q_NB319_307, Q_NB308_319, Q_NB319_308, Q_NB309_319, Q_NB319_309, Q_BK320, Q_GW320, Q_GE320, Q_NB307_320, Q_NB320_307, Q_NB308_320, Q_NB320_308, Q_NB309_320, Q_NB320_309, Q_BK321, Q_GW321, Q_GE321, Q_NB307_321, Q_NB321_307, Q_NB308_321, Q_NB321_308, Q_NB309_321, Q_NB321_309, Q_BK319_e9, Q_BK320_e10, Q_BK321_e11, Q_X6_, Q_X7_, Q_X8_⟩ hb_ hon hoff
    refine ⟨_, rfl, fun K hK => ?_⟩
    have e5 : a.tmps[5]? = some (.pointer (some ⟨gb309, 0, none⟩)) := by rw [ha]; exact (putSel_off rfl).trans rfl
    replace ha := Aside0.mk ha
    have BK307 := Aside0.mk Q_BK307
    have BK308 := Aside0.mk Q_BK308
    have BK309 := Aside0.mk Q_BK309
    have HB := Aside0.mk Q_HB
    have hc0_ : w'.cell? ⟨gb309, 0, none⟩ = some (.int .i64 a2_0) := (blk_cell BK309.out 0).trans rfl
    have hc1_ : w'.cell? ⟨gb309, 1, none⟩ = some (.int .i64 a2_1) := (blk_cell BK309.out 1).trans rfl
    have hc2_ : w'.cell? ⟨gb309, 2, none⟩ = some (.int .i64 a2_2) := (blk_cell BK309.out 2).trans rfl
    have hc3_ : w'.cell? ⟨gb309, 3, none⟩ = some (.int .i64 a2_3) := (blk_cell BK309.out 3).trans rfl
    refine value_ (w1 := w') (v := .agg #[.int .i64 a2_0, .int .i64 a2_1, .int .i64 a2_2, .int .i64 a2_3]) (by rfl) rfl ?_ ?_
    ·go_simp
     (try simp only [i64_w])
     try rfl
    refine hK.out _ _ ⟨gb319, gb320, gb321, m6_, m7_, m8_, (by rw [ha.out]; exact putSel_upk 4 hb_ rfl rfl rfl), Q_BK307, Q_BK308, Q_BK309, Q_HB, Q_NB320_319, Q_NB319_320, Q_NB321_319, Q_NB319_321, Q_NB321_320, Q_NB320_321, Q_BK319, Q_GW319, Q_GE319, Q_NB307_319, Q_NB319_307, Q_NB308_319, Q_NB319_308, Q_NB309_319, Q_NB319_309, Q_BK320, Q_GW320, Q_GE320, Q_NB307_320, Q_NB320_307, Q_NB308_320, Q_NB320_308, Q_NB309_320, Q_NB320_309, Q_BK321, Q_GW321, Q_GE321, Q_NB307_321, Q_NB321_307, Q_NB308_321, Q_NB321_308, Q_NB309_321, Q_NB321_309, fun h0_ => absurd ((hoff 9 (by kernel_rfl)).symm.trans h0_) (by decide), fun h0_ => absurd ((hoff 10 (by kernel_rfl)).symm.trans h0_) (by decide), fun h0_ => absurd ((hoff 11 (by kernel_rfl)).symm.trans h0_) (by decide), Q_X6_, Q_X7_, Q_X8_⟩
   refine steps_cons ?_ ?_
   ·rintro b a w' ⟨gb319, gb320, gb321, m6_, m7_, m8_, ha, Q_BK307, Q_BK308, Q_BK309, Q_HB, Q_NB320_319, Q_NB319_320, Q_NB321_319, Q_NB319_321, Q_NB321_320, Q_NB320_321, Q_BK319, Q_GW319, Q_GE319, Q_NB307_319, Q_NB319_307, Q_NB308_319, Q_NB319_308, Q_NB309_319, Q_NB319_309, Q_BK320, Q_GW320, Q_GE320, Q_NB307_320, Q_NB320_307, Q_NB308_320, Q_NB320_308, Q_NB309_320, Q_NB320_309, Q_BK321, Q_GW321, Q_GE321, Q_NB307_321, Q_NB321_307, Q_NB308_321, Q_NB321_308, Q_NB309_321, Q_NB321_309, Q_BK319_e9, Q_BK320_e10, Q_BK321_e11, Q_X6_, Q_X7_, Q_X8_⟩ hb_ hon hoff
    refine ⟨_, rfl, fun K hK => ?_⟩
    have e15 : a.tmps[15]? = some (.agg #[.int .i64 a2_0, .int .i64 a2_1, .int .i64 a2_2, .int .i64 a2_3]) := by rw [ha]; exact putSel_on (e := (4, 15, .agg #[.int .i64 a2_0, .int .i64 a2_1, .int .i64 a2_2, .int .i64 a2_3])) 4 rfl rfl (hon 4 (by kernel_rfl)) rfl
    replace ha := Aside0.mk ha
    have BK307 := Aside0.mk Q_BK307
    have BK308 := Aside0.mk Q_BK308
    have BK309 := Aside0.mk Q_BK309
    have HB := Aside0.mk Q_HB
    refine goes_ Try.func149 (by kernel_rfl) rfl #[.agg #[.int .i64 a2_0, .int .i64 a2_1, .int .i64 a2_2, .int .i64 a2_3]] (by rfl) rfl rfl (by first | (simp only [List.map_toArray, List.map_cons, List.map_nil, Act.eval, Array.getD_eq_getD_getElem?, Option.getD_some, e15]; done) | (simp only [List.map_toArray, List.map_cons, List.map_nil, Act.eval, Array.getD_eq_getD_getElem?, Option.getD_some, e15]; rfl)) ?_
    with_reducible refine (impl_normal.calls a2_0 a2_1 a2_2 a2_3 t316 t317 t318 _ A6.out).mono ?_
    rintro e w23 ⟨rfl, hb⟩
    refine ⟨_, rfl, ?_⟩
    have n0_ := kb BK307 hb
    have n1_ := kb BK308 hb
    have n2_ := kb BK309 hb
    have n3_ := bt HB hb
    have z_BK319 := fun (h0_ : b 6 = true) (h1_ : b 9 = false) => (show w23.heap[gb319]? = some (.cells #[.int .i64 0, .int .i64 0, .int .i64 0] 128 (0, 0)) from by first | exact (blk_below (g := gb319) (o := .cells #[.int .i64 0, .int .i64 0, .int .i64 0] 128 (0, 0)) (by (with_reducible repeat (first | refine blk_drewN ?_ _ | refine blk_drew ?_ | refine blk_alloc ?_ _)); exact (Q_BK319 h0_ h1_)) hb))
    have z_BK320 := fun (h0_ : b 7 = true) (h1_ : b 10 = false) => (show w23.heap[gb320]? = some (.cells #[.int .i64 0, .int .i64 0, .int .i64 0] 128 (0, 0)) from by first | exact (blk_below (g := gb320) (o := .cells #[.int .i64 0, .int .i64 0, .int .i64 0] 128 (0, 0)) (by (with_reducible repeat (first | refine blk_drewN ?_ _ | refine blk_drew ?_ | refine blk_alloc ?_ _)); exact (Q_BK320 h0_ h1_)) hb))
    have z_BK321 := fun (h0_ : b 8 = true) (h1_ : b 11 = false) => (show w23.heap[gb321]? = some (.cells #[.int .i64 0, .int .i64 0, .int .i64 0] 128 (0, 0)) from by first | exact (blk_below (g := gb321) (o := .cells #[.int .i64 0, .int .i64 0, .int .i64 0] 128 (0, 0)) (by (with_reducible repeat (first | refine blk_drewN ?_ _ | refine blk_drew ?_ | refine blk_alloc ?_ _)); exact (Q_BK321 h0_ h1_)) hb))
    clear BK307
    clear BK308
    clear BK309
    clear HB
    have BK307 := n0_
    have BK308 := n1_
    have BK309 := n2_
    have HB := n3_
    clear n0_ n1_ n2_ n3_
    (try clear hb)
    (try clear hb2)
    (try clear hk)
    (try clear hi)
    refine hK.out _ _ ⟨gb319, gb320, gb321, m6_, m7_, m8_, (by rw [ha.out]; exact putSel_upk 5 hb_ rfl rfl rfl), (kbx BK307), (kbx BK308), (kbx BK309), (hbx HB), Q_NB320_319, Q_NB319_320, Q_NB321_319, Q_NB319_321, Q_NB321_320, Q_NB320_321, z_BK319, Q_GW319, Q_GE319, Q_NB307_319, Q_NB319_307, Q_NB308_319, Q_NB319_308, Q_NB309_319, Q_NB319_309, z_BK320, Q_GW320, Q_GE320, Q_NB307_320, Q_NB320_307, Q_NB308_320, Q_NB320_308, Q_NB309_320, Q_NB320_309, z_BK321, Q_GW321, Q_GE321, Q_NB307_321, Q_NB321_307, Q_NB308_321, Q_NB321_308, Q_NB309_321, Q_NB321_309, fun h0_ => absurd ((hoff 9 (by kernel_rfl)).symm.trans h0_) (by decide), fun h0_ => absurd ((hoff 10 (by kernel_rfl)).symm.trans h0_) (by decide), fun h0_ => absurd ((hoff 11 (by kernel_rfl)).symm.trans h0_) (by decide), Q_X6_, Q_X7_, Q_X8_⟩
   refine steps_cons ?_ ?_
   ·rintro b a w' ⟨gb319, gb320, gb321, m6_, m7_, m8_, ha, Q_BK307, Q_BK308, Q_BK309, Q_HB, Q_NB320_319, Q_NB319_320, Q_NB321_319, Q_NB319_321, Q_NB321_320, Q_NB320_321, Q_BK319, Q_GW319, Q_GE319, Q_NB307_319, Q_NB319_307, Q_NB308_319, Q_NB319_308, Q_NB309_319, Q_NB319_309, Q_BK320, Q_GW320, Q_GE320, Q_NB307_320, Q_NB320_307, Q_NB308_320, Q_NB320_308, Q_NB309_320, Q_NB320_309, Q_BK321, Q_GW321, Q_GE321, Q_NB307_321, Q_NB321_307, Q_NB308_321, Q_NB321_308, Q_NB309_321, Q_NB321_309, Q_BK319_e9, Q_BK320_e10, Q_BK321_e11, Q_X6_, Q_X7_, Q_X8_⟩ hb_ hon hoff
    refine ⟨_, rfl, fun K hK => ?_⟩
    replace ha := Aside0.mk ha
    have BK307 := Aside0.mk Q_BK307
    have BK308 := Aside0.mk Q_BK308
    have BK309 := Aside0.mk Q_BK309
    have HB := Aside0.mk Q_HB
    refine box_step ?hg (N := 7) ?hd (cs := #[.int .i64 0, .int .i64 0, .int .i64 0]) (t := 128) ?hr ?_; (case hd => rfl); (case hg => rfl); (case hr => first | (go_simp; done) | (go_simp; rfl))
    intro gb319 hg w20 hbox hb
    have n0_ := kb BK307 hb
    have n1_ := kb BK308 hb
    have n2_ := kb BK309 hb
    have n3_ := bt HB hb
    have n4_ := Aside0.mk (hbox)
    have n5_ := gx hg HB
    have n6_ := gx hg HB
    have n7_ := nl hg BK307
    have n8_ := nr hg BK307
    have n9_ := nl hg BK308
    have n10_ := nr hg BK308
    have n11_ := nl hg BK309
    have n12_ := nr hg BK309
    have z_NB320_319 := fun (h0_ : up b 6 6 = true) (h1_ : up b 6 7 = true) => (show gb320 ≠ gb319 from (by cases hq_ : b 10 with | false => exact ((by rw [hg]; exact Nat.ne_of_lt (blk_lt (g := gb320) (by (with_reducible repeat (first | refine blk_drewN ?_ _ | refine blk_drew ?_ | refine blk_alloc ?_ _)); exact (Q_BK320 h1_ hq_))) : gb320 ≠ gb319)) | true => exact ((by rw [hg]; exact Nat.ne_of_lt (blk_lt (g := gb320) (by (with_reducible repeat (first | refine blk_drewN ?_ _ | refine blk_drew ?_ | refine blk_alloc ?_ _)); exact (Q_BK320_e10 hq_))) : gb320 ≠ gb319))))
    have z_NB319_320 := fun (h0_ : up b 6 6 = true) (h1_ : up b 6 7 = true) => (show gb319 ≠ gb320 from (by cases hq_ : b 10 with | false => exact ((by rw [hg]; exact Nat.ne_of_gt (blk_lt (g := gb320) (by (with_reducible repeat (first | refine blk_drewN ?_ _ | refine blk_drew ?_ | refine blk_alloc ?_ _)); exact (Q_BK320 h1_ hq_))) : gb319 ≠ gb320)) | true => exact ((by rw [hg]; exact Nat.ne_of_gt (blk_lt (g := gb320) (by (with_reducible repeat (first | refine blk_drewN ?_ _ | refine blk_drew ?_ | refine blk_alloc ?_ _)); exact (Q_BK320_e10 hq_))) : gb319 ≠ gb320))))
    have z_NB321_319 := fun (h0_ : up b 6 6 = true) (h1_ : up b 6 8 = true) => (show gb321 ≠ gb319 from (by cases hq_ : b 11 with | false => exact ((by rw [hg]; exact Nat.ne_of_lt (blk_lt (g := gb321) (by (with_reducible repeat (first | refine blk_drewN ?_ _ | refine blk_drew ?_ | refine blk_alloc ?_ _)); exact (Q_BK321 h1_ hq_))) : gb321 ≠ gb319)) | true => exact ((by rw [hg]; exact Nat.ne_of_lt (blk_lt (g := gb321) (by (with_reducible repeat (first | refine blk_drewN ?_ _ | refine blk_drew ?_ | refine blk_alloc ?_ _)); exact (Q_BK321_e11 hq_))) : gb321 ≠ gb319))))
    have z_NB319_321 := fun (h0_ : up b 6 6 = true) (h1_ : up b 6 8 = true) => (show gb319 ≠ gb321 from (by cases hq_ : b 11 with | false => exact ((by rw [hg]; exact Nat.ne_of_gt (blk_lt (g := gb321) (by (with_reducible repeat (first | refine blk_drewN ?_ _ | refine blk_drew ?_ | refine blk_alloc ?_ _)); exact (Q_BK321 h1_ hq_))) : gb319 ≠ gb321)) | true => exact ((by rw [hg]; exact Nat.ne_of_gt (blk_lt (g := gb321) (by (with_reducible repeat (first | refine blk_drewN ?_ _ | refine blk_drew ?_ | refine blk_alloc ?_ _)); exact (Q_BK321_e11 hq_))) : gb319 ≠ gb321))))
    have z_BK320 := fun (h0_ : b 7 = true) (h1_ : b 10 = false) => (show w20.heap[gb320]? = some (.cells #[.int .i64 0, .int .i64 0, .int .i64 0] 128 (0, 0)) from by first | exact (blk_below (g := gb320) (o := .cells #[.int .i64 0, .int .i64 0, .int .i64 0] 128 (0, 0)) (by (with_reducible repeat (first | refine blk_drewN ?_ _ | refine blk_drew ?_ | refine blk_alloc ?_ _)); exact (Q_BK320 h0_ h1_)) hb))
    have z_BK321 := fun (h0_ : b 8 = true) (h1_ : b 11 = false) => (show w20.heap[gb321]? = some (.cells #[.int .i64 0, .int .i64 0, .int .i64 0] 128 (0, 0)) from by first | exact (blk_below (g := gb321) (o := .cells #[.int .i64 0, .int .i64 0, .int .i64 0] 128 (0, 0)) (by (with_reducible repeat (first | refine blk_drewN ?_ _ | refine blk_drew ?_ | refine blk_alloc ?_ _)); exact (Q_BK321 h0_ h1_)) hb))
    clear BK307
    clear BK308
    clear BK309
    clear HB
    have BK307 := n0_
    have BK308 := n1_
    have BK309 := n2_
    have HB := n3_
    have BK319 := n4_
    have GW319 := n5_
    have GE319 := n6_
    have NB307_319 := n7_
    have NB319_307 := n8_
    have NB308_319 := n9_
    have NB319_308 := n10_
    have NB309_319 := n11_
    have NB319_309 := n12_
    clear n0_ n1_ n2_ n3_ n4_ n5_ n6_ n7_ n8_ n9_ n10_ n11_ n12_
    clear hb hbox hg
    refine hK.out _ _ ⟨gb319, gb320, gb321, (.pointer (some ⟨gb319, 0, none⟩)), m7_, m8_, (by rw [ha.out]; exact putSel_upk 6 hb_ rfl rfl rfl), (kbx BK307), (kbx BK308), (kbx BK309), (hbx HB), z_NB320_319, z_NB319_320, z_NB321_319, z_NB319_321, Q_NB321_320, Q_NB320_321, fun _ _ => (kbx BK319), fun _ => GW319.out, fun _ => GE319.out, fun _ => NB307_319.out, fun _ => NB319_307.out, fun _ => NB308_319.out, fun _ => NB319_308.out, fun _ => NB309_319.out, fun _ => NB319_309.out, z_BK320, Q_GW320, Q_GE320, Q_NB307_320, Q_NB320_307, Q_NB308_320, Q_NB320_308, Q_NB309_320, Q_NB320_309, z_BK321, Q_GW321, Q_GE321, Q_NB307_321, Q_NB321_307, Q_NB308_321, Q_NB321_308, Q_NB309_321, Q_NB321_309, fun h0_ => absurd ((hoff 9 (by kernel_rfl)).symm.trans h0_) (by decide), fun h0_ => absurd ((hoff 10 (by kernel_rfl)).symm.trans h0_) (by decide), fun h0_ => absurd ((hoff 11 (by kernel_rfl)).symm.trans h0_) (by decide), fun _ => rfl, Q_X7_, Q_X8_⟩
   refine steps_cons ?_ ?_
   ·rintro b a w' ⟨gb319, gb320, gb321, m6_, m7_, m8_, ha, Q_BK307, Q_BK308, Q_BK309, Q_HB, Q_NB320_319, Q_NB319_320, Q_NB321_319, Q_NB319_321, Q_NB321_320, Q_NB320_321, Q_BK319, Q_GW319, Q_GE319, Q_NB307_319, Q_NB319_307, Q_NB308_319, Q_NB319_308, Q_NB309_319, Q_NB319_309, Q_BK320, Q_GW320, Q_GE320, Q_NB307_320, Q_NB320_307, Q_NB308_320, Q_NB320_308, Q_NB309_320, Q_NB320_309, Q_BK321, Q_GW321, Q_GE321, Q_NB307_321, Q_NB321_307, Q_NB308_321, Q_NB321_308, Q_NB309_321, Q_NB321_309, Q_BK319_e9, Q_BK320_e10, Q_BK321_e11, Q_X6_, Q_X7_, Q_X8_⟩ hb_ hon hoff
    refine ⟨_, rfl, fun K hK => ?_⟩
    replace ha := Aside0.mk ha
    have BK307 := Aside0.mk Q_BK307
    have BK308 := Aside0.mk Q_BK308
    have BK309 := Aside0.mk Q_BK309
    have HB := Aside0.mk Q_HB
    refine box_step ?hg (N := 8) ?hd (cs := #[.int .i64 0, .int .i64 0, .int .i64 0]) (t := 128) ?hr ?_; (case hd => rfl); (case hg => rfl); (case hr => first | (go_simp; done) | (go_simp; rfl))
    intro gb320 hg w20 hbox hb
    have n0_ := kb BK307 hb
    have n1_ := kb BK308 hb
    have n2_ := kb BK309 hb
    have n3_ := bt HB hb
    have n4_ := Aside0.mk (hbox)
    have n5_ := gx hg HB
    have n6_ := gx hg HB
    have n7_ := nl hg BK307
    have n8_ := nr hg BK307
    have n9_ := nl hg BK308
    have n10_ := nr hg BK308
    have n11_ := nl hg BK309
    have n12_ := nr hg BK309
    have z_NB320_319 := fun (h0_ : up b 7 6 = true) (h1_ : up b 7 7 = true) => (show gb320 ≠ gb319 from (by cases hq_ : b 9 with | false => exact ((by rw [hg]; exact Nat.ne_of_gt (blk_lt (g := gb319) (by (with_reducible repeat (first | refine blk_drewN ?_ _ | refine blk_drew ?_ | refine blk_alloc ?_ _)); exact (Q_BK319 h0_ hq_))) : gb320 ≠ gb319)) | true => exact ((by rw [hg]; exact Nat.ne_of_gt (blk_lt (g := gb319) (by (with_reducible repeat (first | refine blk_drewN ?_ _ | refine blk_drew ?_ | refine blk_alloc ?_ _)); exact (Q_BK319_e9 hq_))) : gb320 ≠ gb319))))
    have z_NB319_320 := fun (h0_ : up b 7 6 = true) (h1_ : up b 7 7 = true) => (show gb319 ≠ gb320 from (by cases hq_ : b 9 with | false => exact ((by rw [hg]; exact Nat.ne_of_lt (blk_lt (g := gb319) (by (with_reducible repeat (first | refine blk_drewN ?_ _ | refine blk_drew ?_ | refine blk_alloc ?_ _)); exact (Q_BK319 h0_ hq_))) : gb319 ≠ gb320)) | true => exact ((by rw [hg]; exact Nat.ne_of_lt (blk_lt (g := gb319) (by (with_reducible repeat (first | refine blk_drewN ?_ _ | refine blk_drew ?_ | refine blk_alloc ?_ _)); exact (Q_BK319_e9 hq_))) : gb319 ≠ gb320))))
    have z_NB321_320 := fun (h0_ : up b 7 7 = true) (h1_ : up b 7 8 = true) => (show gb321 ≠ gb320 from (by cases hq_ : b 11 with | false => exact ((by rw [hg]; exact Nat.ne_of_lt (blk_lt (g := gb321) (by (with_reducible repeat (first | refine blk_drewN ?_ _ | refine blk_drew ?_ | refine blk_alloc ?_ _)); exact (Q_BK321 h1_ hq_))) : gb321 ≠ gb320)) | true => exact ((by rw [hg]; exact Nat.ne_of_lt (blk_lt (g := gb321) (by (with_reducible repeat (first | refine blk_drewN ?_ _ | refine blk_drew ?_ | refine blk_alloc ?_ _)); exact (Q_BK321_e11 hq_))) : gb321 ≠ gb320))))
    have z_NB320_321 := fun (h0_ : up b 7 7 = true) (h1_ : up b 7 8 = true) => (show gb320 ≠ gb321 from (by cases hq_ : b 11 with | false => exact ((by rw [hg]; exact Nat.ne_of_gt (blk_lt (g := gb321) (by (with_reducible repeat (first | refine blk_drewN ?_ _ | refine blk_drew ?_ | refine blk_alloc ?_ _)); exact (Q_BK321 h1_ hq_))) : gb320 ≠ gb321)) | true => exact ((by rw [hg]; exact Nat.ne_of_gt (blk_lt (g := gb321) (by (with_reducible repeat (first | refine blk_drewN ?_ _ | refine blk_drew ?_ | refine blk_alloc ?_ _)); exact (Q_BK321_e11 hq_))) : gb320 ≠ gb321))))
    have z_BK319 := fun (h0_ : b 6 = true) (h1_ : b 9 = false) => (show w20.heap[gb319]? = some (.cells #[.int .i64 0, .int .i64 0, .int .i64 0] 128 (0, 0)) from by first | exact (blk_below (g := gb319) (o := .cells #[.int .i64 0, .int .i64 0, .int .i64 0] 128 (0, 0)) (by (with_reducible repeat (first | refine blk_drewN ?_ _ | refine blk_drew ?_ | refine blk_alloc ?_ _)); exact (Q_BK319 h0_ h1_)) hb))
    have z_BK321 := fun (h0_ : b 8 = true) (h1_ : b 11 = false) => (show w20.heap[gb321]? = some (.cells #[.int .i64 0, .int .i64 0, .int .i64 0] 128 (0, 0)) from by first | exact (blk_below (g := gb321) (o := .cells #[.int .i64 0, .int .i64 0, .int .i64 0] 128 (0, 0)) (by (with_reducible repeat (first | refine blk_drewN ?_ _ | refine blk_drew ?_ | refine blk_alloc ?_ _)); exact (Q_BK321 h0_ h1_)) hb))
    clear BK307
    clear BK308
    clear BK309
    clear HB
    have BK307 := n0_
    have BK308 := n1_
    have BK309 := n2_
    have HB := n3_
    have BK320 := n4_
    have GW320 := n5_
    have GE320 := n6_
    have NB307_320 := n7_
    have NB320_307 := n8_
    have NB308_320 := n9_
    have NB320_308 := n10_
    have NB309_320 := n11_
    have NB320_309 := n12_
    clear n0_ n1_ n2_ n3_ n4_ n5_ n6_ n7_ n8_ n9_ n10_ n11_ n12_
    clear hb hbox hg
    refine hK.out _ _ ⟨gb319, gb320, gb321, m6_, (.pointer (some ⟨gb320, 0, none⟩)), m8_, (by rw [ha.out]; exact putSel_upk 7 hb_ rfl rfl rfl), (kbx BK307), (kbx BK308), (kbx BK309), (hbx HB), z_NB320_319, z_NB319_320, Q_NB321_319, Q_NB319_321, z_NB321_320, z_NB320_321, z_BK319, Q_GW319, Q_GE319, Q_NB307_319, Q_NB319_307, Q_NB308_319, Q_NB319_308, Q_NB309_319, Q_NB319_309, fun _ _ => (kbx BK320), fun _ => GW320.out, fun _ => GE320.out, fun _ => NB307_320.out, fun _ => NB320_307.out, fun _ => NB308_320.out, fun _ => NB320_308.out, fun _ => NB309_320.out, fun _ => NB320_309.out, z_BK321, Q_GW321, Q_GE321, Q_NB307_321, Q_NB321_307, Q_NB308_321, Q_NB321_308, Q_NB309_321, Q_NB321_309, fun h0_ => absurd ((hoff 9 (by kernel_rfl)).symm.trans h0_) (by decide), fun h0_ => absurd ((hoff 10 (by kernel_rfl)).symm.trans h0_) (by decide), fun h0_ => absurd ((hoff 11 (by kernel_rfl)).symm.trans h0_) (by decide), Q_X6_, fun _ => rfl, Q_X8_⟩
   refine steps_cons ?_ ?_
   ·rintro b a w' ⟨gb319, gb320, gb321, m6_, m7_, m8_, ha, Q_BK307, Q_BK308, Q_BK309, Q_HB, Q_NB320_319, Q_NB319_320, Q_NB321_319, Q_NB319_321, Q_NB321_320, Q_NB320_321, Q_BK319, Q_GW319, Q_GE319, Q_NB307_319, Q_NB319_307, Q_NB308_319, Q_NB319_308, Q_NB309_319, Q_NB319_309, Q_BK320, Q_GW320, Q_GE320, Q_NB307_320, Q_NB320_307, Q_NB308_320, Q_NB320_308, Q_NB309_320, Q_NB320_309, Q_BK321, Q_GW321, Q_GE321, Q_NB307_321, Q_NB321_307, Q_NB308_321, Q_NB321_308, Q_NB309_321, Q_NB321_309, Q_BK319_e9, Q_BK320_e10, Q_BK321_e11, Q_X6_, Q_X7_, Q_X8_⟩ hb_ hon hoff
    refine ⟨_, rfl, fun K hK => ?_⟩
    replace ha := Aside0.mk ha
    have BK307 := Aside0.mk Q_BK307
    have BK308 := Aside0.mk Q_BK308
    have BK309 := Aside0.mk Q_BK309
    have HB := Aside0.mk Q_HB
    refine box_step ?hg (N := 9) ?hd (cs := #[.int .i64 0, .int .i64 0, .int .i64 0]) (t := 128) ?hr ?_; (case hd => rfl); (case hg => rfl); (case hr => first | (go_simp; done) | (go_simp; rfl))
    intro gb321 hg w20 hbox hb
    have n0_ := kb BK307 hb
    have n1_ := kb BK308 hb
    have n2_ := kb BK309 hb
    have n3_ := bt HB hb
    have n4_ := Aside0.mk (hbox)
    have n5_ := gx hg HB
    have n6_ := gx hg HB
    have n7_ := nl hg BK307
    have n8_ := nr hg BK307
    have n9_ := nl hg BK308
    have n10_ := nr hg BK308
    have n11_ := nl hg BK309
    have n12_ := nr hg BK309
    have z_NB321_319 := fun (h0_ : up b 8 6 = true) (h1_ : up b 8 8 = true) => (show gb321 ≠ gb319 from (by cases hq_ : b 9 with | false => exact ((by rw [hg]; exact Nat.ne_of_gt (blk_lt (g := gb319) (by (with_reducible repeat (first | refine blk_drewN ?_ _ | refine blk_drew ?_ | refine blk_alloc ?_ _)); exact (Q_BK319 h0_ hq_))) : gb321 ≠ gb319)) | true => exact ((by rw [hg]; exact Nat.ne_of_gt (blk_lt (g := gb319) (by (with_reducible repeat (first | refine blk_drewN ?_ _ | refine blk_drew ?_ | refine blk_alloc ?_ _)); exact (Q_BK319_e9 hq_))) : gb321 ≠ gb319))))
    have z_NB319_321 := fun (h0_ : up b 8 6 = true) (h1_ : up b 8 8 = true) => (show gb319 ≠ gb321 from (by cases hq_ : b 9 with | false => exact ((by rw [hg]; exact Nat.ne_of_lt (blk_lt (g := gb319) (by (with_reducible repeat (first | refine blk_drewN ?_ _ | refine blk_drew ?_ | refine blk_alloc ?_ _)); exact (Q_BK319 h0_ hq_))) : gb319 ≠ gb321)) | true => exact ((by rw [hg]; exact Nat.ne_of_lt (blk_lt (g := gb319) (by (with_reducible repeat (first | refine blk_drewN ?_ _ | refine blk_drew ?_ | refine blk_alloc ?_ _)); exact (Q_BK319_e9 hq_))) : gb319 ≠ gb321))))
    have z_NB321_320 := fun (h0_ : up b 8 7 = true) (h1_ : up b 8 8 = true) => (show gb321 ≠ gb320 from (by cases hq_ : b 10 with | false => exact ((by rw [hg]; exact Nat.ne_of_gt (blk_lt (g := gb320) (by (with_reducible repeat (first | refine blk_drewN ?_ _ | refine blk_drew ?_ | refine blk_alloc ?_ _)); exact (Q_BK320 h0_ hq_))) : gb321 ≠ gb320)) | true => exact ((by rw [hg]; exact Nat.ne_of_gt (blk_lt (g := gb320) (by (with_reducible repeat (first | refine blk_drewN ?_ _ | refine blk_drew ?_ | refine blk_alloc ?_ _)); exact (Q_BK320_e10 hq_))) : gb321 ≠ gb320))))
    have z_NB320_321 := fun (h0_ : up b 8 7 = true) (h1_ : up b 8 8 = true) => (show gb320 ≠ gb321 from (by cases hq_ : b 10 with | false => exact ((by rw [hg]; exact Nat.ne_of_lt (blk_lt (g := gb320) (by (with_reducible repeat (first | refine blk_drewN ?_ _ | refine blk_drew ?_ | refine blk_alloc ?_ _)); exact (Q_BK320 h0_ hq_))) : gb320 ≠ gb321)) | true => exact ((by rw [hg]; exact Nat.ne_of_lt (blk_lt (g := gb320) (by (with_reducible repeat (first | refine blk_drewN ?_ _ | refine blk_drew ?_ | refine blk_alloc ?_ _)); exact (Q_BK320_e10 hq_))) : gb320 ≠ gb321))))
    have z_BK319 := fun (h0_ : b 6 = true) (h1_ : b 9 = false) => (show w20.heap[gb319]? = some (.cells #[.int .i64 0, .int .i64 0, .int .i64 0] 128 (0, 0)) from by first | exact (blk_below (g := gb319) (o := .cells #[.int .i64 0, .int .i64 0, .int .i64 0] 128 (0, 0)) (by (with_reducible repeat (first | refine blk_drewN ?_ _ | refine blk_drew ?_ | refine blk_alloc ?_ _)); exact (Q_BK319 h0_ h1_)) hb))
    have z_BK320 := fun (h0_ : b 7 = true) (h1_ : b 10 = false) => (show w20.heap[gb320]? = some (.cells #[.int .i64 0, .int .i64 0, .int .i64 0] 128 (0, 0)) from by first | exact (blk_below (g := gb320) (o := .cells #[.int .i64 0, .int .i64 0, .int .i64 0] 128 (0, 0)) (by (with_reducible repeat (first | refine blk_drewN ?_ _ | refine blk_drew ?_ | refine blk_alloc ?_ _)); exact (Q_BK320 h0_ h1_)) hb))
    clear BK307
    clear BK308
    clear BK309
    clear HB
    have BK307 := n0_
    have BK308 := n1_
    have BK309 := n2_
    have HB := n3_
    have BK321 := n4_
    have GW321 := n5_
    have GE321 := n6_
    have NB307_321 := n7_
    have NB321_307 := n8_
    have NB308_321 := n9_
    have NB321_308 := n10_
    have NB309_321 := n11_
    have NB321_309 := n12_
    clear n0_ n1_ n2_ n3_ n4_ n5_ n6_ n7_ n8_ n9_ n10_ n11_ n12_
    clear hb hbox hg
    refine hK.out _ _ ⟨gb319, gb320, gb321, m6_, m7_, (.pointer (some ⟨gb321, 0, none⟩)), (by rw [ha.out]; exact putSel_upk 8 hb_ rfl rfl rfl), (kbx BK307), (kbx BK308), (kbx BK309), (hbx HB), Q_NB320_319, Q_NB319_320, z_NB321_319, z_NB319_321, z_NB321_320, z_NB320_321, z_BK319, Q_GW319, Q_GE319, Q_NB307_319, Q_NB319_307, Q_NB308_319, Q_NB319_308, Q_NB309_319, Q_NB319_309, z_BK320, Q_GW320, Q_GE320, Q_NB307_320, Q_NB320_307, Q_NB308_320, Q_NB320_308, Q_NB309_320, Q_NB320_309, fun _ _ => (kbx BK321), fun _ => GW321.out, fun _ => GE321.out, fun _ => NB307_321.out, fun _ => NB321_307.out, fun _ => NB308_321.out, fun _ => NB321_308.out, fun _ => NB309_321.out, fun _ => NB321_309.out, fun h0_ => absurd ((hoff 9 (by kernel_rfl)).symm.trans h0_) (by decide), fun h0_ => absurd ((hoff 10 (by kernel_rfl)).symm.trans h0_) (by decide), fun h0_ => absurd ((hoff 11 (by kernel_rfl)).symm.trans h0_) (by decide), Q_X6_, Q_X7_, fun _ => rfl⟩
   refine steps_cons ?_ ?_
   ·rintro b a w' ⟨gb319, gb320, gb321, m6_, m7_, m8_, ha, Q_BK307, Q_BK308, Q_BK309, Q_HB, Q_NB320_319, Q_NB319_320, Q_NB321_319, Q_NB319_321, Q_NB321_320, Q_NB320_321, Q_BK319, Q_GW319, Q_GE319, Q_NB307_319, Q_NB319_307, Q_NB308_319, Q_NB319_308, Q_NB309_319, Q_NB319_309, Q_BK320, Q_GW320, Q_GE320, Q_NB307_320, Q_NB320_307, Q_NB308_320, Q_NB320_308, Q_NB309_320, Q_NB320_309, Q_BK321, Q_GW321, Q_GE321, Q_NB307_321, Q_NB321_307, Q_NB308_321, Q_NB321_308, Q_NB309_321, Q_NB321_309, Q_BK319_e9, Q_BK320_e10, Q_BK321_e11, Q_X6_, Q_X7_, Q_X8_⟩ hb_ hon hoff
    refine ⟨_, rfl, fun K hK => ?_⟩
    have e7 : a.tmps[7]? = some (m6_) := by rw [ha]; exact putSel_on (e := (6, 7, m6_)) 6 rfl rfl (hon 6 (by kernel_rfl)) rfl
    rw [Q_X6_ (hon 6 (by kernel_rfl))] at e7
    have e12 : a.tmps[12]? = some (.agg #[.int .i64 t310, .int .i64 t311, .int .i64 t312]) := by rw [ha]; exact putSel_on (e := (1, 12, .agg #[.int .i64 t310, .int .i64 t311, .int .i64 t312])) 1 rfl rfl (hon 1 (by kernel_rfl)) rfl
    replace ha := Aside0.mk ha
    have BK307 := Aside0.mk Q_BK307
    have BK308 := Aside0.mk Q_BK308
    have BK309 := Aside0.mk Q_BK309
    have HB := Aside0.mk Q_HB
    have NB320_319 := Aside0.mk (Q_NB320_319 (hon 6 (by kernel_rfl)) (hon 7 (by kernel_rfl)))
    have NB319_320 := Aside0.mk (Q_NB319_320 (hon 6 (by kernel_rfl)) (hon 7 (by kernel_rfl)))
    have NB321_319 := Aside0.mk (Q_NB321_319 (hon 6 (by kernel_rfl)) (hon 8 (by kernel_rfl)))
    have NB319_321 := Aside0.mk (Q_NB319_321 (hon 6 (by kernel_rfl)) (hon 8 (by kernel_rfl)))
    have NB321_320 := Aside0.mk (Q_NB321_320 (hon 7 (by kernel_rfl)) (hon 8 (by kernel_rfl)))
    have NB320_321 := Aside0.mk (Q_NB320_321 (hon 7 (by kernel_rfl)) (hon 8 (by kernel_rfl)))
    have BK319 := Aside0.mk (Q_BK319 (hon 6 (by kernel_rfl)) hb_)
    have GW319 := Aside0.mk (Q_GW319 (hon 6 (by kernel_rfl)))
    have GE319 := Aside0.mk (Q_GE319 (hon 6 (by kernel_rfl)))
    have NB307_319 := Aside0.mk (Q_NB307_319 (hon 6 (by kernel_rfl)))
    have NB319_307 := Aside0.mk (Q_NB319_307 (hon 6 (by kernel_rfl)))
    have NB308_319 := Aside0.mk (Q_NB308_319 (hon 6 (by kernel_rfl)))
    have NB319_308 := Aside0.mk (Q_NB319_308 (hon 6 (by kernel_rfl)))
    have NB309_319 := Aside0.mk (Q_NB309_319 (hon 6 (by kernel_rfl)))
    have NB319_309 := Aside0.mk (Q_NB319_309 (hon 6 (by kernel_rfl)))
    have BK320 := Aside0.mk (Q_BK320 (hon 7 (by kernel_rfl)) (hoff 10 (by kernel_rfl)))
    have GW320 := Aside0.mk (Q_GW320 (hon 7 (by kernel_rfl)))
    have GE320 := Aside0.mk (Q_GE320 (hon 7 (by kernel_rfl)))
    have NB307_320 := Aside0.mk (Q_NB307_320 (hon 7 (by kernel_rfl)))
    have NB320_307 := Aside0.mk (Q_NB320_307 (hon 7 (by kernel_rfl)))
    have NB308_320 := Aside0.mk (Q_NB308_320 (hon 7 (by kernel_rfl)))
    have NB320_308 := Aside0.mk (Q_NB320_308 (hon 7 (by kernel_rfl)))
    have NB309_320 := Aside0.mk (Q_NB309_320 (hon 7 (by kernel_rfl)))
    have NB320_309 := Aside0.mk (Q_NB320_309 (hon 7 (by kernel_rfl)))
    have BK321 := Aside0.mk (Q_BK321 (hon 8 (by kernel_rfl)) (hoff 11 (by kernel_rfl)))
    have GW321 := Aside0.mk (Q_GW321 (hon 8 (by kernel_rfl)))
    have GE321 := Aside0.mk (Q_GE321 (hon 8 (by kernel_rfl)))
    have NB307_321 := Aside0.mk (Q_NB307_321 (hon 8 (by kernel_rfl)))
    have NB321_307 := Aside0.mk (Q_NB321_307 (hon 8 (by kernel_rfl)))
    have NB308_321 := Aside0.mk (Q_NB308_321 (hon 8 (by kernel_rfl)))
    have NB321_308 := Aside0.mk (Q_NB321_308 (hon 8 (by kernel_rfl)))
    have NB309_321 := Aside0.mk (Q_NB309_321 (hon 8 (by kernel_rfl)))
    have NB321_309 := Aside0.mk (Q_NB321_309 (hon 8 (by kernel_rfl)))
    have hs27 : w'.cell? ⟨gb319, 0, none⟩ = some (.int .i64 0) := (blk_cell BK319.out 0).trans rfl
    have hfs27 := blk_frozen BK319.out 0
    have hns27_0 := NB307_319.out
    have hns27_1 := NB308_319.out
    have hns27_2 := NB309_319.out
    have hns27_4 := NB320_319.out
    have hns27_5 := NB321_319.out
    have hms27_0 := NB319_307.out
    have hms27_1 := NB319_308.out
    have hms27_2 := NB319_309.out
    have hms27_4 := NB319_320.out
    have hms27_5 := NB319_321.out
    have hs28 : w'.cell? ⟨gb319, 1, none⟩ = some (.int .i64 0) := (blk_cell BK319.out 1).trans rfl
    have hfs28 := blk_frozen BK319.out 1
    have hns28_0 := NB307_319.out
    have hns28_1 := NB308_319.out
    have hns28_2 := NB309_319.out
    have hns28_4 := NB320_319.out
    have hns28_5 := NB321_319.out
    have hms28_0 := NB319_307.out
    have hms28_1 := NB319_308.out
    have hms28_2 := NB319_309.out
    have hms28_4 := NB319_320.out
    have hms28_5 := NB319_321.out
    have hs29 : w'.cell? ⟨gb319, 2, none⟩ = some (.int .i64 0) := (blk_cell BK319.out 2).trans rfl
    have hfs29 := blk_frozen BK319.out 2
    have hns29_0 := NB307_319.out
    have hns29_1 := NB308_319.out
    have hns29_2 := NB309_319.out
    have hns29_4 := NB320_319.out
    have hns29_5 := NB321_319.out
    have hms29_0 := NB319_307.out
    have hms29_1 := NB319_308.out
    have hms29_2 := NB319_309.out
    have hms29_4 := NB319_320.out
    have hms29_5 := NB319_321.out
    refine skip_ (w1 := ?_) (by rfl) rfl ?_ ?_
    rotate_left
    ·go_simp
     rfl
    refine hK.out _ _ ⟨gb319, gb320, gb321, m6_, m7_, m8_, (by rw [ha.out]; exact putSel_none (v := undef) rfl), (by (with_reducible repeat (first | refine blk_drewN ?_ _ | refine blk_drew ?_ | refine blk_alloc ?_ _)); refine blk_far ?_ NB307_319.out _; (with_reducible repeat (first | refine blk_drewN ?_ _ | refine blk_drew ?_ | refine blk_alloc ?_ _)); refine blk_far ?_ NB307_319.out _; (with_reducible repeat (first | refine blk_drewN ?_ _ | refine blk_drew ?_ | refine blk_alloc ?_ _)); refine blk_far ?_ NB307_319.out _; (with_reducible repeat (first | refine blk_drewN ?_ _ | refine blk_drew ?_ | refine blk_alloc ?_ _)); exact BK307.out), (by (with_reducible repeat (first | refine blk_drewN ?_ _ | refine blk_drew ?_ | refine blk_alloc ?_ _)); refine blk_far ?_ NB308_319.out _; (with_reducible repeat (first | refine blk_drewN ?_ _ | refine blk_drew ?_ | refine blk_alloc ?_ _)); refine blk_far ?_ NB308_319.out _; (with_reducible repeat (first | refine blk_drewN ?_ _ | refine blk_drew ?_ | refine blk_alloc ?_ _)); refine blk_far ?_ NB308_319.out _; (with_reducible repeat (first | refine blk_drewN ?_ _ | refine blk_drew ?_ | refine blk_alloc ?_ _)); exact BK308.out), (by (with_reducible repeat (first | refine blk_drewN ?_ _ | refine blk_drew ?_ | refine blk_alloc ?_ _)); refine blk_far ?_ NB309_319.out _; (with_reducible repeat (first | refine blk_drewN ?_ _ | refine blk_drew ?_ | refine blk_alloc ?_ _)); refine blk_far ?_ NB309_319.out _; (with_reducible repeat (first | refine blk_drewN ?_ _ | refine blk_drew ?_ | refine blk_alloc ?_ _)); refine blk_far ?_ NB309_319.out _; (with_reducible repeat (first | refine blk_drewN ?_ _ | refine blk_drew ?_ | refine blk_alloc ?_ _)); exact BK309.out), (hbx HB), fun _ _ => NB320_319.out, fun _ _ => NB319_320.out, fun _ _ => NB321_319.out, fun _ _ => NB319_321.out, fun _ _ => NB321_320.out, fun _ _ => NB320_321.out, fun _ h1_ => absurd ((up_self b 9).symm.trans h1_) (by decide), fun _ => GW319.out, fun _ => GE319.out, fun _ => NB307_319.out, fun _ => NB319_307.out, fun _ => NB308_319.out, fun _ => NB319_308.out, fun _ => NB309_319.out, fun _ => NB319_309.out, fun _ _ => (by (with_reducible repeat (first | refine blk_drewN ?_ _ | refine blk_drew ?_ | refine blk_alloc ?_ _)); refine blk_far ?_ NB320_319.out _; (with_reducible repeat (first | refine blk_drewN ?_ _ | refine blk_drew ?_ | refine blk_alloc ?_ _)); refine blk_far ?_ NB320_319.out _; (with_reducible repeat (first | refine blk_drewN ?_ _ | refine blk_drew ?_ | refine blk_alloc ?_ _)); refine blk_far ?_ NB320_319.out _; (with_reducible repeat (first | refine blk_drewN ?_ _ | refine blk_drew ?_ | refine blk_alloc ?_ _)); exact BK320.out), fun _ => GW320.out, fun _ => GE320.out, fun _ => NB307_320.out, fun _ => NB320_307.out, fun _ => NB308_320.out, fun _ => NB320_308.out, fun _ => NB309_320.out, fun _ => NB320_309.out, fun _ _ => (by (with_reducible repeat (first | refine blk_drewN ?_ _ | refine blk_drew ?_ | refine blk_alloc ?_ _)); refine blk_far ?_ NB321_319.out _; (with_reducible repeat (first | refine blk_drewN ?_ _ | refine blk_drew ?_ | refine blk_alloc ?_ _)); refine blk_far ?_ NB321_319.out _; (with_reducible repeat (first | refine blk_drewN ?_ _ | refine blk_drew ?_ | refine blk_alloc ?_ _)); refine blk_far ?_ NB321_319.out _; (with_reducible repeat (first | refine blk_drewN ?_ _ | refine blk_drew ?_ | refine blk_alloc ?_ _)); exact BK321.out), fun _ => GW321.out, fun _ => GE321.out, fun _ => NB307_321.out, fun _ => NB321_307.out, fun _ => NB308_321.out, fun _ => NB321_308.out, fun _ => NB309_321.out, fun _ => NB321_309.out, fun _ => (by (with_reducible repeat (first | refine blk_drewN ?_ _ | refine blk_drew ?_ | refine blk_alloc ?_ _)); refine blk_put (cs := #[.int .i64 t310, .int .i64 t311, .int .i64 0]) ?_ 2 _ rfl; (with_reducible repeat (first | refine blk_drewN ?_ _ | refine blk_drew ?_ | refine blk_alloc ?_ _)); refine blk_put (cs := #[.int .i64 t310, .int .i64 0, .int .i64 0]) ?_ 1 _ rfl; (with_reducible repeat (first | refine blk_drewN ?_ _ | refine blk_drew ?_ | refine blk_alloc ?_ _)); refine blk_put (cs := #[.int .i64 0, .int .i64 0, .int .i64 0]) ?_ 0 _ rfl; (with_reducible repeat (first | refine blk_drewN ?_ _ | refine blk_drew ?_ | refine blk_alloc ?_ _)); exact BK319.out), fun h0_ => absurd ((hoff 10 (by kernel_rfl)).symm.trans h0_) (by decide), fun h0_ => absurd ((hoff 11 (by kernel_rfl)).symm.trans h0_) (by decide), Q_X6_, Q_X7_, Q_X8_⟩
   refine steps_cons ?_ ?_
   ·rintro b a w' ⟨gb319, gb320, gb321, m6_, m7_, m8_, ha, Q_BK307, Q_BK308, Q_BK309, Q_HB, Q_NB320_319, Q_NB319_320, Q_NB321_319, Q_NB319_321, Q_NB321_320, Q_NB320_321, Q_BK319, Q_GW319, Q_GE319, Q_NB307_319, Q_NB319_307, Q_NB308_319, Q_NB319_308, Q_NB309_319, Q_NB319_309, Q_BK320, Q_GW320, Q_GE320, Q_NB307_320, Q_NB320_307, Q_NB308_320, Q_NB320_308, Q_NB309_320, Q_NB320_309, Q_BK321, Q_GW321, Q_GE321, Q_NB307_321, Q_NB321_307, Q_NB308_321, Q_NB321_308, Q_NB309_321, Q_NB321_309, Q_BK319_e9, Q_BK320_e10, Q_BK321_e11, Q_X6_, Q_X7_, Q_X8_⟩ hb_ hon hoff
    refine ⟨_, rfl, fun K hK => ?_⟩
    have e8 : a.tmps[8]? = some (m7_) := by rw [ha]; exact putSel_on (e := (7, 8, m7_)) 7 rfl rfl (hon 7 (by kernel_rfl)) rfl
    rw [Q_X7_ (hon 7 (by kernel_rfl))] at e8
    have e14 : a.tmps[14]? = some (.agg #[.int .i64 t313, .int .i64 t314, .int .i64 t315]) := by rw [ha]; exact putSel_on (e := (3, 14, .agg #[.int .i64 t313, .int .i64 t314, .int .i64 t315])) 3 rfl rfl (hon 3 (by kernel_rfl)) rfl
    replace ha := Aside0.mk ha
    have BK307 := Aside0.mk Q_BK307
    have BK308 := Aside0.mk Q_BK308
    have BK309 := Aside0.mk Q_BK309
    have HB := Aside0.mk Q_HB
    have NB320_319 := Aside0.mk (Q_NB320_319 (hon 6 (by kernel_rfl)) (hon 7 (by kernel_rfl)))
    have NB319_320 := Aside0.mk (Q_NB319_320 (hon 6 (by kernel_rfl)) (hon 7 (by kernel_rfl)))
    have NB321_319 := Aside0.mk (Q_NB321_319 (hon 6 (by kernel_rfl)) (hon 8 (by kernel_rfl)))
    have NB319_321 := Aside0.mk (Q_NB319_321 (hon 6 (by kernel_rfl)) (hon 8 (by kernel_rfl)))
    have NB321_320 := Aside0.mk (Q_NB321_320 (hon 7 (by kernel_rfl)) (hon 8 (by kernel_rfl)))
    have NB320_321 := Aside0.mk (Q_NB320_321 (hon 7 (by kernel_rfl)) (hon 8 (by kernel_rfl)))
    have GW319 := Aside0.mk (Q_GW319 (hon 6 (by kernel_rfl)))
    have GE319 := Aside0.mk (Q_GE319 (hon 6 (by kernel_rfl)))
    have NB307_319 := Aside0.mk (Q_NB307_319 (hon 6 (by kernel_rfl)))
    have NB319_307 := Aside0.mk (Q_NB319_307 (hon 6 (by kernel_rfl)))
    have NB308_319 := Aside0.mk (Q_NB308_319 (hon 6 (by kernel_rfl)))
    have NB319_308 := Aside0.mk (Q_NB319_308 (hon 6 (by kernel_rfl)))
    have NB309_319 := Aside0.mk (Q_NB309_319 (hon 6 (by kernel_rfl)))
    have NB319_309 := Aside0.mk (Q_NB319_309 (hon 6 (by kernel_rfl)))
    have BK320 := Aside0.mk (Q_BK320 (hon 7 (by kernel_rfl)) hb_)
    have GW320 := Aside0.mk (Q_GW320 (hon 7 (by kernel_rfl)))
    have GE320 := Aside0.mk (Q_GE320 (hon 7 (by kernel_rfl)))
    have NB307_320 := Aside0.mk (Q_NB307_320 (hon 7 (by kernel_rfl)))
    have NB320_307 := Aside0.mk (Q_NB320_307 (hon 7 (by kernel_rfl)))
    have NB308_320 := Aside0.mk (Q_NB308_320 (hon 7 (by kernel_rfl)))
    have NB320_308 := Aside0.mk (Q_NB320_308 (hon 7 (by kernel_rfl)))
    have NB309_320 := Aside0.mk (Q_NB309_320 (hon 7 (by kernel_rfl)))
    have NB320_309 := Aside0.mk (Q_NB320_309 (hon 7 (by kernel_rfl)))
    have BK321 := Aside0.mk (Q_BK321 (hon 8 (by kernel_rfl)) (hoff 11 (by kernel_rfl)))
    have GW321 := Aside0.mk (Q_GW321 (hon 8 (by kernel_rfl)))
    have GE321 := Aside0.mk (Q_GE321 (hon 8 (by kernel_rfl)))
    have NB307_321 := Aside0.mk (Q_NB307_321 (hon 8 (by kernel_rfl)))
    have NB321_307 := Aside0.mk (Q_NB321_307 (hon 8 (by kernel_rfl)))
    have NB308_321 := Aside0.mk (Q_NB308_321 (hon 8 (by kernel_rfl)))
    have NB321_308 := Aside0.mk (Q_NB321_308 (hon 8 (by kernel_rfl)))
    have NB309_321 := Aside0.mk (Q_NB309_321 (hon 8 (by kernel_rfl)))
    have NB321_309 := Aside0.mk (Q_NB321_309 (hon 8 (by kernel_rfl)))
    have BK319 := Aside0.mk (Q_BK319_e9 (hon 9 (by kernel_rfl)))
    have hs30 : w'.cell? ⟨gb320, 0, none⟩ = some (.int .i64 0) := (blk_cell BK320.out 0).trans rfl
    have hfs30 := blk_frozen BK320.out 0
    have hns30_0 := NB307_320.out
    have hns30_1 := NB308_320.out
    have hns30_2 := NB309_320.out
    have hns30_3 := NB319_320.out
    have hns30_5 := NB321_320.out
    have hms30_0 := NB320_307.out
    have hms30_1 := NB320_308.out
    have hms30_2 := NB320_309.out
    have hms30_3 := NB320_319.out
    have hms30_5 := NB320_321.out
    have hs31 : w'.cell? ⟨gb320, 1, none⟩ = some (.int .i64 0) := (blk_cell BK320.out 1).trans rfl
    have hfs31 := blk_frozen BK320.out 1
    have hns31_0 := NB307_320.out
    have hns31_1 := NB308_320.out
    have hns31_2 := NB309_320.out
    have hns31_3 := NB319_320.out
    have hns31_5 := NB321_320.out
    have hms31_0 := NB320_307.out
    have hms31_1 := NB320_308.out
    have hms31_2 := NB320_309.out
    have hms31_3 := NB320_319.out
    have hms31_5 := NB320_321.out
    have hs32 : w'.cell? ⟨gb320, 2, none⟩ = some (.int .i64 0) := (blk_cell BK320.out 2).trans rfl
    have hfs32 := blk_frozen BK320.out 2
    have hns32_0 := NB307_320.out
    have hns32_1 := NB308_320.out
    have hns32_2 := NB309_320.out
    have hns32_3 := NB319_320.out
    have hns32_5 := NB321_320.out
    have hms32_0 := NB320_307.out
    have hms32_1 := NB320_308.out
    have hms32_2 := NB320_309.out
    have hms32_3 := NB320_319.out
    have hms32_5 := NB320_321.out
    refine skip_ (w1 := ?_) (by rfl) rfl ?_ ?_
    rotate_left
    ·go_simp
     rfl
    refine hK.out _ _ ⟨gb319, gb320, gb321, m6_, m7_, m8_, (by rw [ha.out]; exact putSel_none (v := undef) rfl), (by (with_reducible repeat (first | refine blk_drewN ?_ _ | refine blk_drew ?_ | refine blk_alloc ?_ _)); refine blk_far ?_ NB307_320.out _; (with_reducible repeat (first | refine blk_drewN ?_ _ | refine blk_drew ?_ | refine blk_alloc ?_ _)); refine blk_far ?_ NB307_320.out _; (with_reducible repeat (first | refine blk_drewN ?_ _ | refine blk_drew ?_ | refine blk_alloc ?_ _)); refine blk_far ?_ NB307_320.out _; (with_reducible repeat (first | refine blk_drewN ?_ _ | refine blk_drew ?_ | refine blk_alloc ?_ _)); exact BK307.out), (by (with_reducible repeat (first | refine blk_drewN ?_ _ | refine blk_drew ?_ | refine blk_alloc ?_ _)); refine blk_far ?_ NB308_320.out _; (with_reducible repeat (first | refine blk_drewN ?_ _ | refine blk_drew ?_ | refine blk_alloc ?_ _)); refine blk_far ?_ NB308_320.out _; (with_reducible repeat (first | refine blk_drewN ?_ _ | refine blk_drew ?_ | refine blk_alloc ?_ _)); refine blk_far ?_ NB308_320.out _; (with_reducible repeat (first | refine blk_drewN ?_ _ | refine blk_drew ?_ | refine blk_alloc ?_ _)); exact BK308.out), (by (with_reducible repeat (first | refine blk_drewN ?_ _ | refine blk_drew ?_ | refine blk_alloc ?_ _)); refine blk_far ?_ NB309_320.out _; (with_reducible repeat (first | refine blk_drewN ?_ _ | refine blk_drew ?_ | refine blk_alloc ?_ _)); refine blk_far ?_ NB309_320.out _; (with_reducible repeat (first | refine blk_drewN ?_ _ | refine blk_drew ?_ | refine blk_alloc ?_ _)); refine blk_far ?_ NB309_320.out _; (with_reducible repeat (first | refine blk_drewN ?_ _ | refine blk_drew ?_ | refine blk_alloc ?_ _)); exact BK309.out), (hbx HB), fun _ _ => NB320_319.out, fun _ _ => NB319_320.out, fun _ _ => NB321_319.out, fun _ _ => NB319_321.out, fun _ _ => NB321_320.out, fun _ _ => NB320_321.out, fun _ h1_ => absurd ((hon 9 (by kernel_rfl)).symm.trans h1_) (by decide), fun _ => GW319.out, fun _ => GE319.out, fun _ => NB307_319.out, fun _ => NB319_307.out, fun _ => NB308_319.out, fun _ => NB319_308.out, fun _ => NB309_319.out, fun _ => NB319_309.out, fun _ h1_ => absurd ((up_self b 10).symm.trans h1_) (by decide), fun _ => GW320.out, fun _ => GE320.out, fun _ => NB307_320.out, fun _ => NB320_307.out, fun _ => NB308_320.out, fun _ => NB320_308.out, fun _ => NB309_320.out, fun _ => NB320_309.out, fun _ _ => (by (with_reducible repeat (first | refine blk_drewN ?_ _ | refine blk_drew ?_ | refine blk_alloc ?_ _)); refine blk_far ?_ NB321_320.out _; (with_reducible repeat (first | refine blk_drewN ?_ _ | refine blk_drew ?_ | refine blk_alloc ?_ _)); refine blk_far ?_ NB321_320.out _; (with_reducible repeat (first | refine blk_drewN ?_ _ | refine blk_drew ?_ | refine blk_alloc ?_ _)); refine blk_far ?_ NB321_320.out _; (with_reducible repeat (first | refine blk_drewN ?_ _ | refine blk_drew ?_ | refine blk_alloc ?_ _)); exact BK321.out), fun _ => GW321.out, fun _ => GE321.out, fun _ => NB307_321.out, fun _ => NB321_307.out, fun _ => NB308_321.out, fun _ => NB321_308.out, fun _ => NB309_321.out, fun _ => NB321_309.out, fun _ => (by (with_reducible repeat (first | refine blk_drewN ?_ _ | refine blk_drew ?_ | refine blk_alloc ?_ _)); refine blk_far ?_ NB319_320.out _; (with_reducible repeat (first | refine blk_drewN ?_ _ | refine blk_drew ?_ | refine blk_alloc ?_ _)); refine blk_far ?_ NB319_320.out _; (with_reducible repeat (first | refine blk_drewN ?_ _ | refine blk_drew ?_ | refine blk_alloc ?_ _)); refine blk_far ?_ NB319_320.out _; (with_reducible repeat (first | refine blk_drewN ?_ _ | refine blk_drew ?_ | refine blk_alloc ?_ _)); exact BK319.out), fun _ => (by (with_reducible repeat (first | refine blk_drewN ?_ _ | refine blk_drew ?_ | refine blk_alloc ?_ _)); refine blk_put (cs := #[.int .i64 t313, .int .i64 t314, .int .i64 0]) ?_ 2 _ rfl; (with_reducible repeat (first | refine blk_drewN ?_ _ | refine blk_drew ?_ | refine blk_alloc ?_ _)); refine blk_put (cs := #[.int .i64 t313, .int .i64 0, .int .i64 0]) ?_ 1 _ rfl; (with_reducible repeat (first | refine blk_drewN ?_ _ | refine blk_drew ?_ | refine blk_alloc ?_ _)); refine blk_put (cs := #[.int .i64 0, .int .i64 0, .int .i64 0]) ?_ 0 _ rfl; (with_reducible repeat (first | refine blk_drewN ?_ _ | refine blk_drew ?_ | refine blk_alloc ?_ _)); exact BK320.out), fun h0_ => absurd ((hoff 11 (by kernel_rfl)).symm.trans h0_) (by decide), Q_X6_, Q_X7_, Q_X8_⟩
   refine steps_cons ?_ ?_
   ·rintro b a w' ⟨gb319, gb320, gb321, m6_, m7_, m8_, ha, Q_BK307, Q_BK308, Q_BK309, Q_HB, Q_NB320_319, Q_NB319_320, Q_NB321_319, Q_NB319_321, Q_NB321_320, Q_NB320_321, Q_BK319, Q_GW319, Q_GE319, Q_NB307_319, Q_NB319_307, Q_NB308_319, Q_NB319_308, Q_NB309_319, Q_NB319_309, Q_BK320, Q_GW320, Q_GE320, Q_NB307_320, Q_NB320_307, Q_NB308_320, Q_NB320_308, Q_NB309_320, Q_NB320_309, Q_BK321, Q_GW321, Q_GE321, Q_NB307_321, Q_NB321_307, Q_NB308_321, Q_NB321_308, Q_NB309_321, Q_NB321_309, Q_BK319_e9, Q_BK320_e10, Q_BK321_e11, Q_X6_, Q_X7_, Q_X8_⟩ hb_ hon hoff
    refine ⟨_, rfl, fun K hK => ?_⟩
    have e9 : a.tmps[9]? = some (m8_) := by rw [ha]; exact putSel_on (e := (8, 9, m8_)) 8 rfl rfl (hon 8 (by kernel_rfl)) rfl
    rw [Q_X8_ (hon 8 (by kernel_rfl))] at e9
    have e16 : a.tmps[16]? = some (.agg #[.int .i64 t316, .int .i64 t317, .int .i64 t318]) := by rw [ha]; exact putSel_on (e := (5, 16, .agg #[.int .i64 t316, .int .i64 t317, .int .i64 t318])) 5 rfl rfl (hon 5 (by kernel_rfl)) rfl
    replace ha := Aside0.mk ha
    have BK307 := Aside0.mk Q_BK307
    have BK308 := Aside0.mk Q_BK308
    have BK309 := Aside0.mk Q_BK309
    have HB := Aside0.mk Q_HB
    have NB320_319 := Aside0.mk (Q_NB320_319 (hon 6 (by kernel_rfl)) (hon 7 (by kernel_rfl)))
    have NB319_320 := Aside0.mk (Q_NB319_320 (hon 6 (by kernel_rfl)) (hon 7 (by kernel_rfl)))
    have NB321_319 := Aside0.mk (Q_NB321_319 (hon 6 (by kernel_rfl)) (hon 8 (by kernel_rfl)))
    have NB319_321 := Aside0.mk (Q_NB319_321 (hon 6 (by kernel_rfl)) (hon 8 (by kernel_rfl)))
    have NB321_320 := Aside0.mk (Q_NB321_320 (hon 7 (by kernel_rfl)) (hon 8 (by kernel_rfl)))
    have NB320_321 := Aside0.mk (Q_NB320_321 (hon 7 (by kernel_rfl)) (hon 8 (by kernel_rfl)))
    have GW319 := Aside0.mk (Q_GW319 (hon 6 (by kernel_rfl)))
    have GE319 := Aside0.mk (Q_GE319 (hon 6 (by kernel_rfl)))
    have NB307_319 := Aside0.mk (Q_NB307_319 (hon 6 (by kernel_rfl)))
    have NB319_307 := Aside0.mk (Q_NB319_307 (hon 6 (by kernel_rfl)))
    have NB308_319 := Aside0.mk (Q_NB308_319 (hon 6 (by kernel_rfl)))
    have NB319_308 := Aside0.mk (Q_NB319_308 (hon 6 (by kernel_rfl)))
    have NB309_319 := Aside0.mk (Q_NB309_319 (hon 6 (by kernel_rfl)))
    have NB319_309 := Aside0.mk (Q_NB319_309 (hon 6 (by kernel_rfl)))
    have GW320 := Aside0.mk (Q_GW320 (hon 7 (by kernel_rfl)))
    have GE320 := Aside0.mk (Q_GE320 (hon 7 (by kernel_rfl)))
    have NB307_320 := Aside0.mk (Q_NB307_320 (hon 7 (by kernel_rfl)))
    have NB320_307 := Aside0.mk (Q_NB320_307 (hon 7 (by kernel_rfl)))
    have NB308_320 := Aside0.mk (Q_NB308_320 (hon 7 (by kernel_rfl)))
    have NB320_308 := Aside0.mk (Q_NB320_308 (hon 7 (by kernel_rfl)))
    have NB309_320 := Aside0.mk (Q_NB309_320 (hon 7 (by kernel_rfl)))
    have NB320_309 := Aside0.mk (Q_NB320_309 (hon 7 (by kernel_rfl)))
    have BK321 := Aside0.mk (Q_BK321 (hon 8 (by kernel_rfl)) hb_)
    have GW321 := Aside0.mk (Q_GW321 (hon 8 (by kernel_rfl)))
    have GE321 := Aside0.mk (Q_GE321 (hon 8 (by kernel_rfl)))
    have NB307_321 := Aside0.mk (Q_NB307_321 (hon 8 (by kernel_rfl)))
    have NB321_307 := Aside0.mk (Q_NB321_307 (hon 8 (by kernel_rfl)))
    have NB308_321 := Aside0.mk (Q_NB308_321 (hon 8 (by kernel_rfl)))
    have NB321_308 := Aside0.mk (Q_NB321_308 (hon 8 (by kernel_rfl)))
    have NB309_321 := Aside0.mk (Q_NB309_321 (hon 8 (by kernel_rfl)))
    have NB321_309 := Aside0.mk (Q_NB321_309 (hon 8 (by kernel_rfl)))
    have BK319 := Aside0.mk (Q_BK319_e9 (hon 9 (by kernel_rfl)))
    have BK320 := Aside0.mk (Q_BK320_e10 (hon 10 (by kernel_rfl)))
    have hs33 : w'.cell? ⟨gb321, 0, none⟩ = some (.int .i64 0) := (blk_cell BK321.out 0).trans rfl
    have hfs33 := blk_frozen BK321.out 0
    have hns33_0 := NB307_321.out
    have hns33_1 := NB308_321.out
    have hns33_2 := NB309_321.out
    have hns33_3 := NB319_321.out
    have hns33_4 := NB320_321.out
    have hms33_0 := NB321_307.out
    have hms33_1 := NB321_308.out
    have hms33_2 := NB321_309.out
    have hms33_3 := NB321_319.out
    have hms33_4 := NB321_320.out
    have hs34 : w'.cell? ⟨gb321, 1, none⟩ = some (.int .i64 0) := (blk_cell BK321.out 1).trans rfl
    have hfs34 := blk_frozen BK321.out 1
    have hns34_0 := NB307_321.out
    have hns34_1 := NB308_321.out
    have hns34_2 := NB309_321.out
    have hns34_3 := NB319_321.out
    have hns34_4 := NB320_321.out
    have hms34_0 := NB321_307.out
    have hms34_1 := NB321_308.out
    have hms34_2 := NB321_309.out
    have hms34_3 := NB321_319.out
    have hms34_4 := NB321_320.out
    have hs35 : w'.cell? ⟨gb321, 2, none⟩ = some (.int .i64 0) := (blk_cell BK321.out 2).trans rfl
    have hfs35 := blk_frozen BK321.out 2
    have hns35_0 := NB307_321.out
    have hns35_1 := NB308_321.out
    have hns35_2 := NB309_321.out
    have hns35_3 := NB319_321.out
    have hns35_4 := NB320_321.out
    have hms35_0 := NB321_307.out
    have hms35_1 := NB321_308.out
    have hms35_2 := NB321_309.out
    have hms35_3 := NB321_319.out
    have hms35_4 := NB321_320.out
    refine skip_ (w1 := ?_) (by rfl) rfl ?_ ?_
    rotate_left
    ·go_simp
     rfl
    refine hK.out _ _ ⟨gb319, gb320, gb321, m6_, m7_, m8_, (by rw [ha.out]; exact putSel_none (v := undef) rfl), (by (with_reducible repeat (first | refine blk_drewN ?_ _ | refine blk_drew ?_ | refine blk_alloc ?_ _)); refine blk_far ?_ NB307_321.out _; (with_reducible repeat (first | refine blk_drewN ?_ _ | refine blk_drew ?_ | refine blk_alloc ?_ _)); refine blk_far ?_ NB307_321.out _; (with_reducible repeat (first | refine blk_drewN ?_ _ | refine blk_drew ?_ | refine blk_alloc ?_ _)); refine blk_far ?_ NB307_321.out _; (with_reducible repeat (first | refine blk_drewN ?_ _ | refine blk_drew ?_ | refine blk_alloc ?_ _)); exact BK307.out), (by (with_reducible repeat (first | refine blk_drewN ?_ _ | refine blk_drew ?_ | refine blk_alloc ?_ _)); refine blk_far ?_ NB308_321.out _; (with_reducible repeat (first | refine blk_drewN ?_ _ | refine blk_drew ?_ | refine blk_alloc ?_ _)); refine blk_far ?_ NB308_321.out _; (with_reducible repeat (first | refine blk_drewN ?_ _ | refine blk_drew ?_ | refine blk_alloc ?_ _)); refine blk_far ?_ NB308_321.out _; (with_reducible repeat (first | refine blk_drewN ?_ _ | refine blk_drew ?_ | refine blk_alloc ?_ _)); exact BK308.out), (by (with_reducible repeat (first | refine blk_drewN ?_ _ | refine blk_drew ?_ | refine blk_alloc ?_ _)); refine blk_far ?_ NB309_321.out _; (with_reducible repeat (first | refine blk_drewN ?_ _ | refine blk_drew ?_ | refine blk_alloc ?_ _)); refine blk_far ?_ NB309_321.out _; (with_reducible repeat (first | refine blk_drewN ?_ _ | refine blk_drew ?_ | refine blk_alloc ?_ _)); refine blk_far ?_ NB309_321.out _; (with_reducible repeat (first | refine blk_drewN ?_ _ | refine blk_drew ?_ | refine blk_alloc ?_ _)); exact BK309.out), (hbx HB), fun _ _ => NB320_319.out, fun _ _ => NB319_320.out, fun _ _ => NB321_319.out, fun _ _ => NB319_321.out, fun _ _ => NB321_320.out, fun _ _ => NB320_321.out, fun _ h1_ => absurd ((hon 9 (by kernel_rfl)).symm.trans h1_) (by decide), fun _ => GW319.out, fun _ => GE319.out, fun _ => NB307_319.out, fun _ => NB319_307.out, fun _ => NB308_319.out, fun _ => NB319_308.out, fun _ => NB309_319.out, fun _ => NB319_309.out, fun _ h1_ => absurd ((hon 10 (by kernel_rfl)).symm.trans h1_) (by decide), fun _ => GW320.out, fun _ => GE320.out, fun _ => NB307_320.out, fun _ => NB320_307.out, fun _ => NB308_320.out, fun _ => NB320_308.out, fun _ => NB309_320.out, fun _ => NB320_309.out, fun _ h1_ => absurd ((up_self b 11).symm.trans h1_) (by decide), fun _ => GW321.out, fun _ => GE321.out, fun _ => NB307_321.out, fun _ => NB321_307.out, fun _ => NB308_321.out, fun _ => NB321_308.out, fun _ => NB309_321.out, fun _ => NB321_309.out, fun _ => (by (with_reducible repeat (first | refine blk_drewN ?_ _ | refine blk_drew ?_ | refine blk_alloc ?_ _)); refine blk_far ?_ NB319_321.out _; (with_reducible repeat (first | refine blk_drewN ?_ _ | refine blk_drew ?_ | refine blk_alloc ?_ _)); refine blk_far ?_ NB319_321.out _; (with_reducible repeat (first | refine blk_drewN ?_ _ | refine blk_drew ?_ | refine blk_alloc ?_ _)); refine blk_far ?_ NB319_321.out _; (with_reducible repeat (first | refine blk_drewN ?_ _ | refine blk_drew ?_ | refine blk_alloc ?_ _)); exact BK319.out), fun _ => (by (with_reducible repeat (first | refine blk_drewN ?_ _ | refine blk_drew ?_ | refine blk_alloc ?_ _)); refine blk_far ?_ NB320_321.out _; (with_reducible repeat (first | refine blk_drewN ?_ _ | refine blk_drew ?_ | refine blk_alloc ?_ _)); refine blk_far ?_ NB320_321.out _; (with_reducible repeat (first | refine blk_drewN ?_ _ | refine blk_drew ?_ | refine blk_alloc ?_ _)); refine blk_far ?_ NB320_321.out _; (with_reducible repeat (first | refine blk_drewN ?_ _ | refine blk_drew ?_ | refine blk_alloc ?_ _)); exact BK320.out), fun _ => (by (with_reducible repeat (first | refine blk_drewN ?_ _ | refine blk_drew ?_ | refine blk_alloc ?_ _)); refine blk_put (cs := #[.int .i64 t316, .int .i64 t317, .int .i64 0]) ?_ 2 _ rfl; (with_reducible repeat (first | refine blk_drewN ?_ _ | refine blk_drew ?_ | refine blk_alloc ?_ _)); refine blk_put (cs := #[.int .i64 t316, .int .i64 0, .int .i64 0]) ?_ 1 _ rfl; (with_reducible repeat (first | refine blk_drewN ?_ _ | refine blk_drew ?_ | refine blk_alloc ?_ _)); refine blk_put (cs := #[.int .i64 0, .int .i64 0, .int .i64 0]) ?_ 0 _ rfl; (with_reducible repeat (first | refine blk_drewN ?_ _ | refine blk_drew ?_ | refine blk_alloc ?_ _)); exact BK321.out), Q_X6_, Q_X7_, Q_X8_⟩
   exact steps_nil
  rintro b a w35 hall ⟨gb319, gb320, gb321, m6_, m7_, m8_, ha, Q_BK307, Q_BK308, Q_BK309, Q_HB, Q_NB320_319, Q_NB319_320, Q_NB321_319, Q_NB319_321, Q_NB321_320, Q_NB320_321, Q_BK319, Q_GW319, Q_GE319, Q_NB307_319, Q_NB319_307, Q_NB308_319, Q_NB319_308, Q_NB309_319, Q_NB319_309, Q_BK320, Q_GW320, Q_GE320, Q_NB307_320, Q_NB320_307, Q_NB308_320, Q_NB320_308, Q_NB309_320, Q_NB320_309, Q_BK321, Q_GW321, Q_GE321, Q_NB307_321, Q_NB321_307, Q_NB308_321, Q_NB321_308, Q_NB309_321, Q_NB321_309, Q_BK319_e9, Q_BK320_e10, Q_BK321_e11, Q_X6_, Q_X7_, Q_X8_⟩
  clear BK307 BK308 BK309 HB
  have hb0_ := hall 0 (by kernel_rfl)
  have hb1_ := hall 1 (by kernel_rfl)
  have hb2_ := hall 2 (by kernel_rfl)
  have hb3_ := hall 3 (by kernel_rfl)
  have hb4_ := hall 4 (by kernel_rfl)
  have hb5_ := hall 5 (by kernel_rfl)
  have hb6_ := hall 6 (by kernel_rfl)
  have hb7_ := hall 7 (by kernel_rfl)
  have hb8_ := hall 8 (by kernel_rfl)
  have hb9_ := hall 9 (by kernel_rfl)
  have hb10_ := hall 10 (by kernel_rfl)
  have hb11_ := hall 11 (by kernel_rfl)
  subst ha
  obtain rfl := Q_X6_ hb6_
  obtain rfl := Q_X7_ hb7_
  obtain rfl := Q_X8_ hb8_
  simp only [putSel, hb0_, hb1_, hb2_, hb3_, hb4_, hb5_, hb6_, hb7_, hb8_, hb9_, hb10_, hb11_, if_true, Act.put, List.setIfInBounds_toArray, List.set_cons_zero, List.set_cons_succ]
  have BK307 := Aside0.mk Q_BK307
  clear Q_BK307
  have BK308 := Aside0.mk Q_BK308
  clear Q_BK308
  have BK309 := Aside0.mk Q_BK309
  clear Q_BK309
  have HB := Aside0.mk Q_HB
  clear Q_HB
  have NB320_319 := Aside0.mk (Q_NB320_319 hb6_ hb7_)
  clear Q_NB320_319
  have NB319_320 := Aside0.mk (Q_NB319_320 hb6_ hb7_)
  clear Q_NB319_320
  have NB321_319 := Aside0.mk (Q_NB321_319 hb6_ hb8_)
  clear Q_NB321_319
  have NB319_321 := Aside0.mk (Q_NB319_321 hb6_ hb8_)
  clear Q_NB319_321
  have NB321_320 := Aside0.mk (Q_NB321_320 hb7_ hb8_)
  clear Q_NB321_320
  have NB320_321 := Aside0.mk (Q_NB320_321 hb7_ hb8_)
  clear Q_NB320_321
  clear Q_BK319
  have GW319 := Aside0.mk (Q_GW319 hb6_)
  clear Q_GW319
  have GE319 := Aside0.mk (Q_GE319 hb6_)
  clear Q_GE319
  have NB307_319 := Aside0.mk (Q_NB307_319 hb6_)
  clear Q_NB307_319
  have NB319_307 := Aside0.mk (Q_NB319_307 hb6_)
  clear Q_NB319_307
  have NB308_319 := Aside0.mk (Q_NB308_319 hb6_)
  clear Q_NB308_319
  have NB319_308 := Aside0.mk (Q_NB319_308 hb6_)
  clear Q_NB319_308
  have NB309_319 := Aside0.mk (Q_NB309_319 hb6_)
  clear Q_NB309_319
  have NB319_309 := Aside0.mk (Q_NB319_309 hb6_)
  clear Q_NB319_309
  clear Q_BK320
  have GW320 := Aside0.mk (Q_GW320 hb7_)
  clear Q_GW320
  have GE320 := Aside0.mk (Q_GE320 hb7_)
  clear Q_GE320
  have NB307_320 := Aside0.mk (Q_NB307_320 hb7_)
  clear Q_NB307_320
  have NB320_307 := Aside0.mk (Q_NB320_307 hb7_)
  clear Q_NB320_307
  have NB308_320 := Aside0.mk (Q_NB308_320 hb7_)
  clear Q_NB308_320
  have NB320_308 := Aside0.mk (Q_NB320_308 hb7_)
  clear Q_NB320_308
  have NB309_320 := Aside0.mk (Q_NB309_320 hb7_)
  clear Q_NB309_320
  have NB320_309 := Aside0.mk (Q_NB320_309 hb7_)
  clear Q_NB320_309
  clear Q_BK321
  have GW321 := Aside0.mk (Q_GW321 hb8_)
  clear Q_GW321
  have GE321 := Aside0.mk (Q_GE321 hb8_)
  clear Q_GE321
  have NB307_321 := Aside0.mk (Q_NB307_321 hb8_)
  clear Q_NB307_321
  have NB321_307 := Aside0.mk (Q_NB321_307 hb8_)
  clear Q_NB321_307
  have NB308_321 := Aside0.mk (Q_NB308_321 hb8_)
  clear Q_NB308_321
  have NB321_308 := Aside0.mk (Q_NB321_308 hb8_)
  clear Q_NB321_308
  have NB309_321 := Aside0.mk (Q_NB309_321 hb8_)
  clear Q_NB309_321
  have NB321_309 := Aside0.mk (Q_NB321_309 hb8_)
  clear Q_NB321_309
  have BK319 := Aside0.mk (Q_BK319_e9 hb9_)
  clear Q_BK319_e9
  have BK320 := Aside0.mk (Q_BK320_e10 hb10_)
  clear Q_BK320_e10
  have BK321 := Aside0.mk (Q_BK321_e11 hb11_)
  clear Q_BK321_e11
  clear hall hb0_ hb1_ hb2_ hb3_ hb4_ hb5_ hb6_ hb7_ hb8_ hb9_ hb10_ hb11_
  have hnb36 := NB319_307.out
  have hnc36 := NB307_319.out
  have hnb37 := NB319_308.out
  have hnc37 := NB308_319.out
  have hnb38 := NB319_309.out
  have hnc38 := NB309_319.out
  have hnb39 := NB319_320.out
  have hnc39 := NB320_319.out
  have hnb40 := NB319_321.out
  have hnc40 := NB321_319.out
  obtain ⟨hcz41_0, hcz41_1, hcz41_2, hfz41_0, hfz41_1, hfz41_2⟩ := cz3 BK319
  have hnb42 := NB320_307.out
  have hnc42 := NB307_320.out
  have hnb43 := NB320_308.out
  have hnc43 := NB308_320.out
  have hnb44 := NB320_309.out
  have hnc44 := NB309_320.out
  have hnb45 := NB320_321.out
  have hnc45 := NB321_320.out
  obtain ⟨hcz46_0, hcz46_1, hcz46_2, hfz46_0, hfz46_1, hfz46_2⟩ := cz3 BK320
  have hnb47 := NB321_307.out
  have hnc47 := NB307_321.out
  have hnb48 := NB321_308.out
  have hnc48 := NB308_321.out
  have hnb49 := NB321_309.out
  have hnc49 := NB309_321.out
  obtain ⟨hcz50_0, hcz50_1, hcz50_2, hfz50_0, hfz50_1, hfz50_2⟩ := cz3 BK321
  try go_wp2_with (first | ((with_reducible refine gate_callee (f := 171) rfl ?_); refine gL 20 Try.func171 #[.agg #[.int .i64 t310, .int .i64 t311, .int .i64 t312], .agg #[.int .i64 t313, .int .i64 t314, .int .i64 t315], .agg #[.int .i64 t316, .int .i64 t317, .int .i64 t318]] ?_; (with_reducible refine (impl_det.calls t310 t311 t312 t313 t314 t315 t316 t317 t318 t322 _ A7.out).mono ?_); rintro e w51 ⟨rfl, hb⟩; refine ⟨_, rfl, ?_⟩; have n0_ := kb BK307 hb; have n1_ := kb BK308 hb; have n2_ := kb BK309 hb; have n3_ := kb BK319 hb; have n4_ := kb BK320 hb; have n5_ := kb BK321 hb; have n6_ := bt HB hb; clear BK307; clear BK308; clear BK309; clear BK319; clear BK320; clear BK321; clear HB; have BK307 := n0_; have BK308 := n1_; have BK309 := n2_; have BK319 := n3_; have BK320 := n4_; have BK321 := n5_; have HB := n6_; clear n0_ n1_ n2_ n3_ n4_ n5_ n6_; (try clear hb); (try clear hb2); (try clear hk); (try clear hi); obtain ⟨hcz52_0, hcz52_1, hcz52_2, hfz52_0, hfz52_1, hfz52_2⟩ := cz3 BK319; obtain ⟨hcz53_0, hcz53_1, hcz53_2, hfz53_0, hfz53_1, hfz53_2⟩ := cz3 BK320) | ((with_reducible refine gate_callee (f := 148) rfl ?_); refine gL 24 Try.func148 #[.agg #[.int .i64 t310, .int .i64 t311, .int .i64 t312], .agg #[.int .i64 t313, .int .i64 t314, .int .i64 t315]] ?_; (with_reducible refine (impl_crossOf.calls t310 t311 t312 t313 t314 t315 t323 t324 t325 _ A9.out).mono ?_); rintro e w54 ⟨rfl, hb⟩; refine ⟨_, rfl, ?_⟩; have n0_ := kb BK307 hb; have n1_ := kb BK308 hb; have n2_ := kb BK309 hb; have n3_ := kb BK319 hb; have n4_ := kb BK320 hb; have n5_ := kb BK321 hb; have n6_ := bt HB hb; clear BK307; clear BK308; clear BK309; clear BK319; clear BK320; clear BK321; clear HB; have BK307 := n0_; have BK308 := n1_; have BK309 := n2_; have BK319 := n3_; have BK320 := n4_; have BK321 := n5_; have HB := n6_; clear n0_ n1_ n2_ n3_ n4_ n5_ n6_; (try clear hb); (try clear hb2); (try clear hk); (try clear hi)) | ((with_reducible refine gate_dst (N := 10) rfl ?_); refine box_event ?hg (N := 10) ?hd (cs := #[.int .i64 0, .int .i64 0, .int .i64 0]) (t := 128) ?hr ?_; (case hd => rfl); (case hg => rfl); (case hr => first | (go_simp; done) | (go_simp; rfl)); intro gb326 hg w55 hbox hb; have n0_ := kb BK307 hb; have n1_ := kb BK308 hb; have n2_ := kb BK309 hb; have n3_ := kb BK319 hb; have n4_ := kb BK320 hb; have n5_ := kb BK321 hb; have n6_ := bt HB hb; have n7_ := Aside0.mk (hbox); have n8_ := gx hg HB; have n9_ := gx hg HB; have n10_ := nl hg BK307; have n11_ := nr hg BK307; have n12_ := nl hg BK308; have n13_ := nr hg BK308; have n14_ := nl hg BK309; have n15_ := nr hg BK309; have n16_ := nl hg BK319; have n17_ := nr hg BK319; have n18_ := nl hg BK320; have n19_ := nr hg BK320; have n20_ := nl hg BK321; have n21_ := nr hg BK321; clear BK307; clear BK308; clear BK309; clear BK319; clear BK320; clear BK321; clear HB; have BK307 := n0_; have BK308 := n1_; have BK309 := n2_; have BK319 := n3_; have BK320 := n4_; have BK321 := n5_; have HB := n6_; have BK326 := n7_; have GW326 := n8_; have GE326 := n9_; have NB307_326 := n10_; have NB326_307 := n11_; have NB308_326 := n12_; have NB326_308 := n13_; have NB309_326 := n14_; have NB326_309 := n15_; have NB319_326 := n16_; have NB326_319 := n17_; have NB320_326 := n18_; have NB326_320 := n19_; have NB321_326 := n20_; have NB326_321 := n21_; clear n0_ n1_ n2_ n3_ n4_ n5_ n6_ n7_ n8_ n9_ n10_ n11_ n12_ n13_ n14_ n15_ n16_ n17_ n18_ n19_ n20_ n21_; clear hb hbox hg; have hnb56 := NB326_307.out; have hnc56 := NB307_326.out; have hnb57 := NB326_308.out; have hnc57 := NB308_326.out; have hnb58 := NB326_309.out; have hnc58 := NB309_326.out; have hnb59 := NB326_319.out; have hnc59 := NB319_326.out; have hnb60 := NB326_320.out; have hnc60 := NB320_326.out; have hnb61 := NB326_321.out; have hnc61 := NB321_326.out; obtain ⟨hcz62_0, hcz62_1, hcz62_2, hfz62_0, hfz62_1, hfz62_2⟩ := cz3 BK326))
  have n0_ : Aside0 ((((w55.setCell ⟨gb326, 0, none⟩ (.int .i64 t323)).setCell ⟨gb326, 1, none⟩ (.int .i64 t324)).setCell ⟨gb326, 2, none⟩ (.int .i64 t325)).heap[gb307]? = some (.cells #[.int .i64 a0_0, .int .i64 a0_1, .int .i64 a0_2, .int .i64 a0_3] 23 (0, 0))) := ⟨by (with_reducible repeat (first | refine blk_drewN ?_ _ | refine blk_drew ?_ | refine blk_alloc ?_ _)); refine blk_far ?_ NB307_326.out _; (with_reducible repeat (first | refine blk_drewN ?_ _ | refine blk_drew ?_ | refine blk_alloc ?_ _)); refine blk_far ?_ NB307_326.out _; (with_reducible repeat (first | refine blk_drewN ?_ _ | refine blk_drew ?_ | refine blk_alloc ?_ _)); refine blk_far ?_ NB307_326.out _; (with_reducible repeat (first | refine blk_drewN ?_ _ | refine blk_drew ?_ | refine blk_alloc ?_ _)); exact BK307.out⟩
  have n1_ : Aside0 ((((w55.setCell ⟨gb326, 0, none⟩ (.int .i64 t323)).setCell ⟨gb326, 1, none⟩ (.int .i64 t324)).setCell ⟨gb326, 2, none⟩ (.int .i64 t325)).heap[gb308]? = some (.cells #[.int .i64 a1_0, .int .i64 a1_1, .int .i64 a1_2, .int .i64 a1_3] 23 (0, 0))) := ⟨by (with_reducible repeat (first | refine blk_drewN ?_ _ | refine blk_drew ?_ | refine blk_alloc ?_ _)); refine blk_far ?_ NB308_326.out _; (with_reducible repeat (first | refine blk_drewN ?_ _ | refine blk_drew ?_ | refine blk_alloc ?_ _)); refine blk_far ?_ NB308_326.out _; (with_reducible repeat (first | refine blk_drewN ?_ _ | refine blk_drew ?_ | refine blk_alloc ?_ _)); refine blk_far ?_ NB308_326.out _; (with_reducible repeat (first | refine blk_drewN ?_ _ | refine blk_drew ?_ | refine blk_alloc ?_ _)); exact BK308.out⟩
  have n2_ : Aside0 ((((w55.setCell ⟨gb326, 0, none⟩ (.int .i64 t323)).setCell ⟨gb326, 1, none⟩ (.int .i64 t324)).setCell ⟨gb326, 2, none⟩ (.int .i64 t325)).heap[gb309]? = some (.cells #[.int .i64 a2_0, .int .i64 a2_1, .int .i64 a2_2, .int .i64 a2_3] 23 (0, 0))) := ⟨by (with_reducible repeat (first | refine blk_drewN ?_ _ | refine blk_drew ?_ | refine blk_alloc ?_ _)); refine blk_far ?_ NB309_326.out _; (with_reducible repeat (first | refine blk_drewN ?_ _ | refine blk_drew ?_ | refine blk_alloc ?_ _)); refine blk_far ?_ NB309_326.out _; (with_reducible repeat (first | refine blk_drewN ?_ _ | refine blk_drew ?_ | refine blk_alloc ?_ _)); refine blk_far ?_ NB309_326.out _; (with_reducible repeat (first | refine blk_drewN ?_ _ | refine blk_drew ?_ | refine blk_alloc ?_ _)); exact BK309.out⟩
  have n3_ : Aside0 ((((w55.setCell ⟨gb326, 0, none⟩ (.int .i64 t323)).setCell ⟨gb326, 1, none⟩ (.int .i64 t324)).setCell ⟨gb326, 2, none⟩ (.int .i64 t325)).heap[gb319]? = some (.cells #[.int .i64 t310, .int .i64 t311, .int .i64 t312] 128 (0, 0))) := ⟨by (with_reducible repeat (first | refine blk_drewN ?_ _ | refine blk_drew ?_ | refine blk_alloc ?_ _)); refine blk_far ?_ NB319_326.out _; (with_reducible repeat (first | refine blk_drewN ?_ _ | refine blk_drew ?_ | refine blk_alloc ?_ _)); refine blk_far ?_ NB319_326.out _; (with_reducible repeat (first | refine blk_drewN ?_ _ | refine blk_drew ?_ | refine blk_alloc ?_ _)); refine blk_far ?_ NB319_326.out _; (with_reducible repeat (first | refine blk_drewN ?_ _ | refine blk_drew ?_ | refine blk_alloc ?_ _)); exact BK319.out⟩
  have n4_ : Aside0 ((((w55.setCell ⟨gb326, 0, none⟩ (.int .i64 t323)).setCell ⟨gb326, 1, none⟩ (.int .i64 t324)).setCell ⟨gb326, 2, none⟩ (.int .i64 t325)).heap[gb320]? = some (.cells #[.int .i64 t313, .int .i64 t314, .int .i64 t315] 128 (0, 0))) := ⟨by (with_reducible repeat (first | refine blk_drewN ?_ _ | refine blk_drew ?_ | refine blk_alloc ?_ _)); refine blk_far ?_ NB320_326.out _; (with_reducible repeat (first | refine blk_drewN ?_ _ | refine blk_drew ?_ | refine blk_alloc ?_ _)); refine blk_far ?_ NB320_326.out _; (with_reducible repeat (first | refine blk_drewN ?_ _ | refine blk_drew ?_ | refine blk_alloc ?_ _)); refine blk_far ?_ NB320_326.out _; (with_reducible repeat (first | refine blk_drewN ?_ _ | refine blk_drew ?_ | refine blk_alloc ?_ _)); exact BK320.out⟩
  have n5_ : Aside0 ((((w55.setCell ⟨gb326, 0, none⟩ (.int .i64 t323)).setCell ⟨gb326, 1, none⟩ (.int .i64 t324)).setCell ⟨gb326, 2, none⟩ (.int .i64 t325)).heap[gb321]? = some (.cells #[.int .i64 t316, .int .i64 t317, .int .i64 t318] 128 (0, 0))) := ⟨by (with_reducible repeat (first | refine blk_drewN ?_ _ | refine blk_drew ?_ | refine blk_alloc ?_ _)); refine blk_far ?_ NB321_326.out _; (with_reducible repeat (first | refine blk_drewN ?_ _ | refine blk_drew ?_ | refine blk_alloc ?_ _)); refine blk_far ?_ NB321_326.out _; (with_reducible repeat (first | refine blk_drewN ?_ _ | refine blk_drew ?_ | refine blk_alloc ?_ _)); refine blk_far ?_ NB321_326.out _; (with_reducible repeat (first | refine blk_drewN ?_ _ | refine blk_drew ?_ | refine blk_alloc ?_ _)); exact BK321.out⟩
  have n6_ : Aside0 ((((w55.setCell ⟨gb326, 0, none⟩ (.int .i64 t323)).setCell ⟨gb326, 1, none⟩ (.int .i64 t324)).setCell ⟨gb326, 2, none⟩ (.int .i64 t325)).heap[gb326]? = some (.cells #[.int .i64 t323, .int .i64 t324, .int .i64 t325] 128 (0, 0))) := ⟨by (with_reducible repeat (first | refine blk_drewN ?_ _ | refine blk_drew ?_ | refine blk_alloc ?_ _)); refine blk_put (cs := #[.int .i64 t323, .int .i64 t324, .int .i64 0]) ?_ 2 _ rfl; (with_reducible repeat (first | refine blk_drewN ?_ _ | refine blk_drew ?_ | refine blk_alloc ?_ _)); refine blk_put (cs := #[.int .i64 t323, .int .i64 0, .int .i64 0]) ?_ 1 _ rfl; (with_reducible repeat (first | refine blk_drewN ?_ _ | refine blk_drew ?_ | refine blk_alloc ?_ _)); refine blk_put (cs := #[.int .i64 0, .int .i64 0, .int .i64 0]) ?_ 0 _ rfl; (with_reducible repeat (first | refine blk_drewN ?_ _ | refine blk_drew ?_ | refine blk_alloc ?_ _)); exact BK326.out⟩
  have n7_ : Aside0 (Below w.heap.size w (((w55.setCell ⟨gb326, 0, none⟩ (.int .i64 t323)).setCell ⟨gb326, 1, none⟩ (.int .i64 t324)).setCell ⟨gb326, 2, none⟩ (.int .i64 t325))) := ⟨by repeat (first | (with_reducible first | exact HB.out | apply below_alloc | apply pw_below_drewN | apply below_drew1 | refine below_set ?_ GE307.out | refine below_set ?_ GE308.out | refine below_set ?_ GE309.out | refine below_set ?_ GE319.out | refine below_set ?_ GE320.out | refine below_set ?_ GE321.out | refine below_set ?_ GE326.out) | exact HB.out)⟩
  (try clear BK307)
  (try clear BK308)
  (try clear BK309)
  (try clear BK319)
  (try clear BK320)
  (try clear BK321)
  (try clear BK326)
  (try clear HB)
  generalize (((w55.setCell ⟨gb326, 0, none⟩ (.int .i64 t323)).setCell ⟨gb326, 1, none⟩ (.int .i64 t324)).setCell ⟨gb326, 2, none⟩ (.int .i64 t325)) = w63 at n0_ n1_ n2_ n3_ n4_ n5_ n6_ n7_ ⊢
  have BK307 := n0_
  have BK308 := n1_
  have BK309 := n2_
  have BK319 := n3_
  have BK320 := n4_
  have BK321 := n5_
  have BK326 := n6_
  have HB := n7_
  clear n0_ n1_ n2_ n3_ n4_ n5_ n6_ n7_
  have n0_ := Aside0.mk (blk_drew BK307.out)
  have n1_ := Aside0.mk (blk_drew BK308.out)
  have n2_ := Aside0.mk (blk_drew BK309.out)
  have n3_ := Aside0.mk (blk_drew BK319.out)
  have n4_ := Aside0.mk (blk_drew BK320.out)
  have n5_ := Aside0.mk (blk_drew BK321.out)
  have n6_ := Aside0.mk (blk_drew BK326.out)
  have n7_ := Aside0.mk (below_drew1 HB.out)
  clear BK307
  clear BK308
  clear BK309
  clear BK319
  clear BK320
  clear BK321
  clear BK326
  clear HB
  have BK307 := n0_
  have BK308 := n1_
  have BK309 := n2_
  have BK319 := n3_
  have BK320 := n4_
  have BK321 := n5_
  have BK326 := n6_
  have HB := n7_
  clear n0_ n1_ n2_ n3_ n4_ n5_ n6_ n7_
  refine start_ (n := 23) (S := fun w' => w'.cell? ⟨gb320, 0, none⟩ = some (.int .i64 t313) ∧ w'.cell? ⟨gb320, 1, none⟩ = some (.int .i64 t314) ∧ w'.cell? ⟨gb320, 2, none⟩ = some (.int .i64 t315) ∧ w'.cell? ⟨gb321, 0, none⟩ = some (.int .i64 t316) ∧ w'.cell? ⟨gb321, 1, none⟩ = some (.int .i64 t317) ∧ w'.cell? ⟨gb321, 2, none⟩ = some (.int .i64 t318) ∧ w'.cell? ⟨gb326, 0, none⟩ = some (.int .i64 t323) ∧ w'.cell? ⟨gb326, 1, none⟩ = some (.int .i64 t324) ∧ w'.cell? ⟨gb326, 2, none⟩ = some (.int .i64 t325) ∧ w'.cell? ⟨gb319, 0, none⟩ = some (.int .i64 t310) ∧ w'.cell? ⟨gb319, 1, none⟩ = some (.int .i64 t311) ∧ w'.cell? ⟨gb319, 2, none⟩ = some (.int .i64 t312) ∧ w'.cell? ⟨gb307, 0, none⟩ = some (.int .i64 a0_0) ∧ w'.cell? ⟨gb307, 1, none⟩ = some (.int .i64 a0_1) ∧ w'.cell? ⟨gb307, 2, none⟩ = some (.int .i64 a0_2) ∧ w'.cell? ⟨gb307, 3, none⟩ = some (.int .i64 a0_3) ∧ w'.cell? ⟨gb308, 0, none⟩ = some (.int .i64 a1_0) ∧ w'.cell? ⟨gb308, 1, none⟩ = some (.int .i64 a1_1) ∧ w'.cell? ⟨gb308, 2, none⟩ = some (.int .i64 a1_2) ∧ w'.cell? ⟨gb308, 3, none⟩ = some (.int .i64 a1_3) ∧ w'.cell? ⟨gb309, 0, none⟩ = some (.int .i64 a2_0) ∧ w'.cell? ⟨gb309, 1, none⟩ = some (.int .i64 a2_1) ∧ w'.cell? ⟨gb309, 2, none⟩ = some (.int .i64 a2_2) ∧ w'.cell? ⟨gb309, 3, none⟩ = some (.int .i64 a2_3)) (ds := []) (bl 23 0) (by kernel_rfl) rfl rfl ⟨(blk_cell BK320.out 0).trans rfl, (blk_cell BK320.out 1).trans rfl, (blk_cell BK320.out 2).trans rfl, (blk_cell BK321.out 0).trans rfl, (blk_cell BK321.out 1).trans rfl, (blk_cell BK321.out 2).trans rfl, (blk_cell BK326.out 0).trans rfl, (blk_cell BK326.out 1).trans rfl, (blk_cell BK326.out 2).trans rfl, (blk_cell BK319.out 0).trans rfl, (blk_cell BK319.out 1).trans rfl, (blk_cell BK319.out 2).trans rfl, (blk_cell BK307.out 0).trans rfl, (blk_cell BK307.out 1).trans rfl, (blk_cell BK307.out 2).trans rfl, (blk_cell BK307.out 3).trans rfl, (blk_cell BK308.out 0).trans rfl, (blk_cell BK308.out 1).trans rfl, (blk_cell BK308.out 2).trans rfl, (blk_cell BK308.out 3).trans rfl, (blk_cell BK309.out 0).trans rfl, (blk_cell BK309.out 1).trans rfl, (blk_cell BK309.out 2).trans rfl, (blk_cell BK309.out 3).trans rfl⟩ (fun hHeld => ?_); refine with_tabW impl_clash3.tab5 impl_clash3.bits5 (fun HT_ HW_ => ?_)
  generalize w63.drew = w64 at BK307 BK308 BK309 BK319 BK320 BK321 BK326 HB hHeld ⊢
  refine pS 14 39 16384 ?_
  refine pS 16 41 81920 ?_
  refine pS 18 43 344064 ?_
  refine tS 0 25 344065 ?_
  refine tS 1 26 344067 ?_
  refine tS 3 28 344075 ?_
  refine tS 5 30 344107 ?_
  refine tS 6 31 344171 ?_
  refine tS 8 33 344427 ?_
  refine tS 10 35 345451 ?_
  refine tS 11 36 347499 ?_
  refine tS 15 40 380267 ?_
  refine tS 17 42 511339 ?_
  refine tS 19 44 1035627 ?_
  refine join_ (σ := Value × Value) 2 (bl 23 2097151) (fun s_ => [(27, .agg #[.int .i64 t327, .int .i64 t328, .int .i64 t329]), (29, .int .i64 t330), (32, .agg #[.int .i64 t331, .int .i64 t332, .int .i64 t333]), (34, .int .i64 t334), (37, .int .i64 t335), (38, s_.1), (45, s_.2)]) (fun s_ w' => (w'.cell? ⟨gb320, 0, none⟩ = some (.int .i64 t313) ∧ w'.cell? ⟨gb320, 1, none⟩ = some (.int .i64 t314) ∧ w'.cell? ⟨gb320, 2, none⟩ = some (.int .i64 t315) ∧ w'.cell? ⟨gb321, 0, none⟩ = some (.int .i64 t316) ∧ w'.cell? ⟨gb321, 1, none⟩ = some (.int .i64 t317) ∧ w'.cell? ⟨gb321, 2, none⟩ = some (.int .i64 t318) ∧ w'.cell? ⟨gb326, 0, none⟩ = some (.int .i64 t323) ∧ w'.cell? ⟨gb326, 1, none⟩ = some (.int .i64 t324) ∧ w'.cell? ⟨gb326, 2, none⟩ = some (.int .i64 t325) ∧ w'.cell? ⟨gb319, 0, none⟩ = some (.int .i64 t310) ∧ w'.cell? ⟨gb319, 1, none⟩ = some (.int .i64 t311) ∧ w'.cell? ⟨gb319, 2, none⟩ = some (.int .i64 t312) ∧ w'.cell? ⟨gb307, 0, none⟩ = some (.int .i64 a0_0) ∧ w'.cell? ⟨gb307, 1, none⟩ = some (.int .i64 a0_1) ∧ w'.cell? ⟨gb307, 2, none⟩ = some (.int .i64 a0_2) ∧ w'.cell? ⟨gb307, 3, none⟩ = some (.int .i64 a0_3) ∧ w'.cell? ⟨gb308, 0, none⟩ = some (.int .i64 a1_0) ∧ w'.cell? ⟨gb308, 1, none⟩ = some (.int .i64 a1_1) ∧ w'.cell? ⟨gb308, 2, none⟩ = some (.int .i64 a1_2) ∧ w'.cell? ⟨gb308, 3, none⟩ = some (.int .i64 a1_3) ∧ w'.cell? ⟨gb309, 0, none⟩ = some (.int .i64 a2_0) ∧ w'.cell? ⟨gb309, 1, none⟩ = some (.int .i64 a2_1) ∧ w'.cell? ⟨gb309, 2, none⟩ = some (.int .i64 a2_2) ∧ w'.cell? ⟨gb309, 3, none⟩ = some (.int .i64 a2_3)) ∧ (Kd.R (Kd.int .i64) 3 w' w.heap.size (fun k_ => some k_ ≠ (s_.2 : Value).ownBlock) s_.1 y336) ∧ (Kd.R (Kd.int .i64) 3 w' w.heap.size (fun k_ => some k_ ≠ (s_.1 : Value).ownBlock) s_.2 y339) ∧ (w'.heap[gb307]? = some (.cells #[.int .i64 a0_0, .int .i64 a0_1, .int .i64 a0_2, .int .i64 a0_3] 23 (0, 0))) ∧ (w'.heap[gb308]? = some (.cells #[.int .i64 a1_0, .int .i64 a1_1, .int .i64 a1_2, .int .i64 a1_3] 23 (0, 0))) ∧ (w'.heap[gb309]? = some (.cells #[.int .i64 a2_0, .int .i64 a2_1, .int .i64 a2_2, .int .i64 a2_3] 23 (0, 0))) ∧ (w'.heap[gb319]? = some (.cells #[.int .i64 t310, .int .i64 t311, .int .i64 t312] 128 (0, 0))) ∧ (w'.heap[gb320]? = some (.cells #[.int .i64 t313, .int .i64 t314, .int .i64 t315] 128 (0, 0))) ∧ (w'.heap[gb321]? = some (.cells #[.int .i64 t316, .int .i64 t317, .int .i64 t318] 128 (0, 0))) ∧ (w'.heap[gb326]? = some (.cells #[.int .i64 t323, .int .i64 t324, .int .i64 t325] 128 (0, 0))) ∧ (Below w.heap.size w w')) ?_ ?_
  rotate_left
  ·intro hJ2_4_7_9_12_13_20
   refine join_ (σ := Value) 3 (bl 23 1048575) (fun s_ => [(27, .agg #[.int .i64 t327, .int .i64 t328, .int .i64 t329]), (29, .int .i64 t330), (32, .agg #[.int .i64 t331, .int .i64 t332, .int .i64 t333]), (34, .int .i64 t334), (37, .int .i64 t335), (38, s_)]) (fun s_ w' => (w'.cell? ⟨gb320, 0, none⟩ = some (.int .i64 t313) ∧ w'.cell? ⟨gb320, 1, none⟩ = some (.int .i64 t314) ∧ w'.cell? ⟨gb320, 2, none⟩ = some (.int .i64 t315) ∧ w'.cell? ⟨gb321, 0, none⟩ = some (.int .i64 t316) ∧ w'.cell? ⟨gb321, 1, none⟩ = some (.int .i64 t317) ∧ w'.cell? ⟨gb321, 2, none⟩ = some (.int .i64 t318) ∧ w'.cell? ⟨gb326, 0, none⟩ = some (.int .i64 t323) ∧ w'.cell? ⟨gb326, 1, none⟩ = some (.int .i64 t324) ∧ w'.cell? ⟨gb326, 2, none⟩ = some (.int .i64 t325) ∧ w'.cell? ⟨gb319, 0, none⟩ = some (.int .i64 t310) ∧ w'.cell? ⟨gb319, 1, none⟩ = some (.int .i64 t311) ∧ w'.cell? ⟨gb319, 2, none⟩ = some (.int .i64 t312) ∧ w'.cell? ⟨gb307, 0, none⟩ = some (.int .i64 a0_0) ∧ w'.cell? ⟨gb307, 1, none⟩ = some (.int .i64 a0_1) ∧ w'.cell? ⟨gb307, 2, none⟩ = some (.int .i64 a0_2) ∧ w'.cell? ⟨gb307, 3, none⟩ = some (.int .i64 a0_3) ∧ w'.cell? ⟨gb308, 0, none⟩ = some (.int .i64 a1_0) ∧ w'.cell? ⟨gb308, 1, none⟩ = some (.int .i64 a1_1) ∧ w'.cell? ⟨gb308, 2, none⟩ = some (.int .i64 a1_2) ∧ w'.cell? ⟨gb308, 3, none⟩ = some (.int .i64 a1_3) ∧ w'.cell? ⟨gb309, 0, none⟩ = some (.int .i64 a2_0) ∧ w'.cell? ⟨gb309, 1, none⟩ = some (.int .i64 a2_1) ∧ w'.cell? ⟨gb309, 2, none⟩ = some (.int .i64 a2_2) ∧ w'.cell? ⟨gb309, 3, none⟩ = some (.int .i64 a2_3)) ∧ (Kd.R (Kd.int .i64) 3 w' w.heap.size (fun _ => True) s_ y336) ∧ (w'.heap[gb307]? = some (.cells #[.int .i64 a0_0, .int .i64 a0_1, .int .i64 a0_2, .int .i64 a0_3] 23 (0, 0))) ∧ (w'.heap[gb308]? = some (.cells #[.int .i64 a1_0, .int .i64 a1_1, .int .i64 a1_2, .int .i64 a1_3] 23 (0, 0))) ∧ (w'.heap[gb309]? = some (.cells #[.int .i64 a2_0, .int .i64 a2_1, .int .i64 a2_2, .int .i64 a2_3] 23 (0, 0))) ∧ (w'.heap[gb319]? = some (.cells #[.int .i64 t310, .int .i64 t311, .int .i64 t312] 128 (0, 0))) ∧ (w'.heap[gb320]? = some (.cells #[.int .i64 t313, .int .i64 t314, .int .i64 t315] 128 (0, 0))) ∧ (w'.heap[gb321]? = some (.cells #[.int .i64 t316, .int .i64 t317, .int .i64 t318] 128 (0, 0))) ∧ (w'.heap[gb326]? = some (.cells #[.int .i64 t323, .int .i64 t324, .int .i64 t325] 128 (0, 0))) ∧ (Below w.heap.size w w')) ?_ ?_
   rotate_left
   ·intro hJ2_4_7_9_12_13
    refine join_ (σ := Value) 3 (bl 23 2088959) (fun s_ => [(27, .agg #[.int .i64 t327, .int .i64 t328, .int .i64 t329]), (29, .int .i64 t330), (32, .agg #[.int .i64 t331, .int .i64 t332, .int .i64 t333]), (34, .int .i64 t334), (37, .int .i64 t335), (45, s_)]) (fun s_ w' => (w'.cell? ⟨gb320, 0, none⟩ = some (.int .i64 t313) ∧ w'.cell? ⟨gb320, 1, none⟩ = some (.int .i64 t314) ∧ w'.cell? ⟨gb320, 2, none⟩ = some (.int .i64 t315) ∧ w'.cell? ⟨gb321, 0, none⟩ = some (.int .i64 t316) ∧ w'.cell? ⟨gb321, 1, none⟩ = some (.int .i64 t317) ∧ w'.cell? ⟨gb321, 2, none⟩ = some (.int .i64 t318) ∧ w'.cell? ⟨gb326, 0, none⟩ = some (.int .i64 t323) ∧ w'.cell? ⟨gb326, 1, none⟩ = some (.int .i64 t324) ∧ w'.cell? ⟨gb326, 2, none⟩ = some (.int .i64 t325) ∧ w'.cell? ⟨gb319, 0, none⟩ = some (.int .i64 t310) ∧ w'.cell? ⟨gb319, 1, none⟩ = some (.int .i64 t311) ∧ w'.cell? ⟨gb319, 2, none⟩ = some (.int .i64 t312) ∧ w'.cell? ⟨gb307, 0, none⟩ = some (.int .i64 a0_0) ∧ w'.cell? ⟨gb307, 1, none⟩ = some (.int .i64 a0_1) ∧ w'.cell? ⟨gb307, 2, none⟩ = some (.int .i64 a0_2) ∧ w'.cell? ⟨gb307, 3, none⟩ = some (.int .i64 a0_3) ∧ w'.cell? ⟨gb308, 0, none⟩ = some (.int .i64 a1_0) ∧ w'.cell? ⟨gb308, 1, none⟩ = some (.int .i64 a1_1) ∧ w'.cell? ⟨gb308, 2, none⟩ = some (.int .i64 a1_2) ∧ w'.cell? ⟨gb308, 3, none⟩ = some (.int .i64 a1_3) ∧ w'.cell? ⟨gb309, 0, none⟩ = some (.int .i64 a2_0) ∧ w'.cell? ⟨gb309, 1, none⟩ = some (.int .i64 a2_1) ∧ w'.cell? ⟨gb309, 2, none⟩ = some (.int .i64 a2_2) ∧ w'.cell? ⟨gb309, 3, none⟩ = some (.int .i64 a2_3)) ∧ (Kd.R (Kd.int .i64) 3 w' w.heap.size (fun _ => True) s_ y339) ∧ (w'.heap[gb307]? = some (.cells #[.int .i64 a0_0, .int .i64 a0_1, .int .i64 a0_2, .int .i64 a0_3] 23 (0, 0))) ∧ (w'.heap[gb308]? = some (.cells #[.int .i64 a1_0, .int .i64 a1_1, .int .i64 a1_2, .int .i64 a1_3] 23 (0, 0))) ∧ (w'.heap[gb309]? = some (.cells #[.int .i64 a2_0, .int .i64 a2_1, .int .i64 a2_2, .int .i64 a2_3] 23 (0, 0))) ∧ (w'.heap[gb319]? = some (.cells #[.int .i64 t310, .int .i64 t311, .int .i64 t312] 128 (0, 0))) ∧ (w'.heap[gb320]? = some (.cells #[.int .i64 t313, .int .i64 t314, .int .i64 t315] 128 (0, 0))) ∧ (w'.heap[gb321]? = some (.cells #[.int .i64 t316, .int .i64 t317, .int .i64 t318] 128 (0, 0))) ∧ (w'.heap[gb326]? = some (.cells #[.int .i64 t323, .int .i64 t324, .int .i64 t325] 128 (0, 0))) ∧ (Below w.heap.size w w')) ?_ ?_
    rotate_left
    ·intro hJ2_4_7_9_12_20
     refine join_ (σ := Unit) 4 (bl 23 1040383) (fun s_ => [(27, .agg #[.int .i64 t327, .int .i64 t328, .int .i64 t329]), (29, .int .i64 t330), (32, .agg #[.int .i64 t331, .int .i64 t332, .int .i64 t333]), (34, .int .i64 t334), (37, .int .i64 t335)]) (fun s_ w' => (w'.cell? ⟨gb320, 0, none⟩ = some (.int .i64 t313) ∧ w'.cell? ⟨gb320, 1, none⟩ = some (.int .i64 t314) ∧ w'.cell? ⟨gb320, 2, none⟩ = some (.int .i64 t315) ∧ w'.cell? ⟨gb321, 0, none⟩ = some (.int .i64 t316) ∧ w'.cell? ⟨gb321, 1, none⟩ = some (.int .i64 t317) ∧ w'.cell? ⟨gb321, 2, none⟩ = some (.int .i64 t318) ∧ w'.cell? ⟨gb326, 0, none⟩ = some (.int .i64 t323) ∧ w'.cell? ⟨gb326, 1, none⟩ = some (.int .i64 t324) ∧ w'.cell? ⟨gb326, 2, none⟩ = some (.int .i64 t325) ∧ w'.cell? ⟨gb319, 0, none⟩ = some (.int .i64 t310) ∧ w'.cell? ⟨gb319, 1, none⟩ = some (.int .i64 t311) ∧ w'.cell? ⟨gb319, 2, none⟩ = some (.int .i64 t312) ∧ w'.cell? ⟨gb307, 0, none⟩ = some (.int .i64 a0_0) ∧ w'.cell? ⟨gb307, 1, none⟩ = some (.int .i64 a0_1) ∧ w'.cell? ⟨gb307, 2, none⟩ = some (.int .i64 a0_2) ∧ w'.cell? ⟨gb307, 3, none⟩ = some (.int .i64 a0_3) ∧ w'.cell? ⟨gb308, 0, none⟩ = some (.int .i64 a1_0) ∧ w'.cell? ⟨gb308, 1, none⟩ = some (.int .i64 a1_1) ∧ w'.cell? ⟨gb308, 2, none⟩ = some (.int .i64 a1_2) ∧ w'.cell? ⟨gb308, 3, none⟩ = some (.int .i64 a1_3) ∧ w'.cell? ⟨gb309, 0, none⟩ = some (.int .i64 a2_0) ∧ w'.cell? ⟨gb309, 1, none⟩ = some (.int .i64 a2_1) ∧ w'.cell? ⟨gb309, 2, none⟩ = some (.int .i64 a2_2) ∧ w'.cell? ⟨gb309, 3, none⟩ = some (.int .i64 a2_3)) ∧ (w'.heap[gb307]? = some (.cells #[.int .i64 a0_0, .int .i64 a0_1, .int .i64 a0_2, .int .i64 a0_3] 23 (0, 0))) ∧ (w'.heap[gb308]? = some (.cells #[.int .i64 a1_0, .int .i64 a1_1, .int .i64 a1_2, .int .i64 a1_3] 23 (0, 0))) ∧ (w'.heap[gb309]? = some (.cells #[.int .i64 a2_0, .int .i64 a2_1, .int .i64 a2_2, .int .i64 a2_3] 23 (0, 0))) ∧ (w'.heap[gb319]? = some (.cells #[.int .i64 t310, .int .i64 t311, .int .i64 t312] 128 (0, 0))) ∧ (w'.heap[gb320]? = some (.cells #[.int .i64 t313, .int .i64 t314, .int .i64 t315] 128 (0, 0))) ∧ (w'.heap[gb321]? = some (.cells #[.int .i64 t316, .int .i64 t317, .int .i64 t318] 128 (0, 0))) ∧ (w'.heap[gb326]? = some (.cells #[.int .i64 t323, .int .i64 t324, .int .i64 t325] 128 (0, 0))) ∧ (Below w.heap.size w w')) ?_ ?_
     rotate_left
     ·intro hJ2_4_7_9_12
      refine join_ (σ := Value) 4 (bl 23 2084863) (fun s_ => [(27, .agg #[.int .i64 t327, .int .i64 t328, .int .i64 t329]), (29, .int .i64 t330), (32, .agg #[.int .i64 t331, .int .i64 t332, .int .i64 t333]), (34, .int .i64 t334), (45, s_)]) (fun s_ w' => (w'.cell? ⟨gb320, 0, none⟩ = some (.int .i64 t313) ∧ w'.cell? ⟨gb320, 1, none⟩ = some (.int .i64 t314) ∧ w'.cell? ⟨gb320, 2, none⟩ = some (.int .i64 t315) ∧ w'.cell? ⟨gb321, 0, none⟩ = some (.int .i64 t316) ∧ w'.cell? ⟨gb321, 1, none⟩ = some (.int .i64 t317) ∧ w'.cell? ⟨gb321, 2, none⟩ = some (.int .i64 t318) ∧ w'.cell? ⟨gb326, 0, none⟩ = some (.int .i64 t323) ∧ w'.cell? ⟨gb326, 1, none⟩ = some (.int .i64 t324) ∧ w'.cell? ⟨gb326, 2, none⟩ = some (.int .i64 t325) ∧ w'.cell? ⟨gb319, 0, none⟩ = some (.int .i64 t310) ∧ w'.cell? ⟨gb319, 1, none⟩ = some (.int .i64 t311) ∧ w'.cell? ⟨gb319, 2, none⟩ = some (.int .i64 t312) ∧ w'.cell? ⟨gb307, 0, none⟩ = some (.int .i64 a0_0) ∧ w'.cell? ⟨gb307, 1, none⟩ = some (.int .i64 a0_1) ∧ w'.cell? ⟨gb307, 2, none⟩ = some (.int .i64 a0_2) ∧ w'.cell? ⟨gb307, 3, none⟩ = some (.int .i64 a0_3) ∧ w'.cell? ⟨gb308, 0, none⟩ = some (.int .i64 a1_0) ∧ w'.cell? ⟨gb308, 1, none⟩ = some (.int .i64 a1_1) ∧ w'.cell? ⟨gb308, 2, none⟩ = some (.int .i64 a1_2) ∧ w'.cell? ⟨gb308, 3, none⟩ = some (.int .i64 a1_3) ∧ w'.cell? ⟨gb309, 0, none⟩ = some (.int .i64 a2_0) ∧ w'.cell? ⟨gb309, 1, none⟩ = some (.int .i64 a2_1) ∧ w'.cell? ⟨gb309, 2, none⟩ = some (.int .i64 a2_2) ∧ w'.cell? ⟨gb309, 3, none⟩ = some (.int .i64 a2_3)) ∧ (Kd.R (Kd.int .i64) 3 w' w.heap.size (fun _ => True) s_ y339) ∧ (w'.heap[gb307]? = some (.cells #[.int .i64 a0_0, .int .i64 a0_1, .int .i64 a0_2, .int .i64 a0_3] 23 (0, 0))) ∧ (w'.heap[gb308]? = some (.cells #[.int .i64 a1_0, .int .i64 a1_1, .int .i64 a1_2, .int .i64 a1_3] 23 (0, 0))) ∧ (w'.heap[gb309]? = some (.cells #[.int .i64 a2_0, .int .i64 a2_1, .int .i64 a2_2, .int .i64 a2_3] 23 (0, 0))) ∧ (w'.heap[gb319]? = some (.cells #[.int .i64 t310, .int .i64 t311, .int .i64 t312] 128 (0, 0))) ∧ (w'.heap[gb320]? = some (.cells #[.int .i64 t313, .int .i64 t314, .int .i64 t315] 128 (0, 0))) ∧ (w'.heap[gb321]? = some (.cells #[.int .i64 t316, .int .i64 t317, .int .i64 t318] 128 (0, 0))) ∧ (w'.heap[gb326]? = some (.cells #[.int .i64 t323, .int .i64 t324, .int .i64 t325] 128 (0, 0))) ∧ (Below w.heap.size w w')) ?_ ?_
      rotate_left
      ·intro hJ2_4_7_9_20
       refine join_ (σ := Unit) 5 (bl 23 1036287) (fun s_ => [(27, .agg #[.int .i64 t327, .int .i64 t328, .int .i64 t329]), (29, .int .i64 t330), (32, .agg #[.int .i64 t331, .int .i64 t332, .int .i64 t333]), (34, .int .i64 t334)]) (fun s_ w' => (w'.cell? ⟨gb320, 0, none⟩ = some (.int .i64 t313) ∧ w'.cell? ⟨gb320, 1, none⟩ = some (.int .i64 t314) ∧ w'.cell? ⟨gb320, 2, none⟩ = some (.int .i64 t315) ∧ w'.cell? ⟨gb321, 0, none⟩ = some (.int .i64 t316) ∧ w'.cell? ⟨gb321, 1, none⟩ = some (.int .i64 t317) ∧ w'.cell? ⟨gb321, 2, none⟩ = some (.int .i64 t318) ∧ w'.cell? ⟨gb326, 0, none⟩ = some (.int .i64 t323) ∧ w'.cell? ⟨gb326, 1, none⟩ = some (.int .i64 t324) ∧ w'.cell? ⟨gb326, 2, none⟩ = some (.int .i64 t325) ∧ w'.cell? ⟨gb319, 0, none⟩ = some (.int .i64 t310) ∧ w'.cell? ⟨gb319, 1, none⟩ = some (.int .i64 t311) ∧ w'.cell? ⟨gb319, 2, none⟩ = some (.int .i64 t312) ∧ w'.cell? ⟨gb307, 0, none⟩ = some (.int .i64 a0_0) ∧ w'.cell? ⟨gb307, 1, none⟩ = some (.int .i64 a0_1) ∧ w'.cell? ⟨gb307, 2, none⟩ = some (.int .i64 a0_2) ∧ w'.cell? ⟨gb307, 3, none⟩ = some (.int .i64 a0_3) ∧ w'.cell? ⟨gb308, 0, none⟩ = some (.int .i64 a1_0) ∧ w'.cell? ⟨gb308, 1, none⟩ = some (.int .i64 a1_1) ∧ w'.cell? ⟨gb308, 2, none⟩ = some (.int .i64 a1_2) ∧ w'.cell? ⟨gb308, 3, none⟩ = some (.int .i64 a1_3) ∧ w'.cell? ⟨gb309, 0, none⟩ = some (.int .i64 a2_0) ∧ w'.cell? ⟨gb309, 1, none⟩ = some (.int .i64 a2_1) ∧ w'.cell? ⟨gb309, 2, none⟩ = some (.int .i64 a2_2) ∧ w'.cell? ⟨gb309, 3, none⟩ = some (.int .i64 a2_3)) ∧ (w'.heap[gb307]? = some (.cells #[.int .i64 a0_0, .int .i64 a0_1, .int .i64 a0_2, .int .i64 a0_3] 23 (0, 0))) ∧ (w'.heap[gb308]? = some (.cells #[.int .i64 a1_0, .int .i64 a1_1, .int .i64 a1_2, .int .i64 a1_3] 23 (0, 0))) ∧ (w'.heap[gb309]? = some (.cells #[.int .i64 a2_0, .int .i64 a2_1, .int .i64 a2_2, .int .i64 a2_3] 23 (0, 0))) ∧ (w'.heap[gb319]? = some (.cells #[.int .i64 t310, .int .i64 t311, .int .i64 t312] 128 (0, 0))) ∧ (w'.heap[gb320]? = some (.cells #[.int .i64 t313, .int .i64 t314, .int .i64 t315] 128 (0, 0))) ∧ (w'.heap[gb321]? = some (.cells #[.int .i64 t316, .int .i64 t317, .int .i64 t318] 128 (0, 0))) ∧ (w'.heap[gb326]? = some (.cells #[.int .i64 t323, .int .i64 t324, .int .i64 t325] 128 (0, 0))) ∧ (Below w.heap.size w w')) ?_ ?_
       rotate_left
       ·intro hJ2_4_7_9
        refine join_ (σ := Value) 5 (bl 23 2084351) (fun s_ => [(27, .agg #[.int .i64 t327, .int .i64 t328, .int .i64 t329]), (29, .int .i64 t330), (32, .agg #[.int .i64 t331, .int .i64 t332, .int .i64 t333]), (45, s_)]) (fun s_ w' => (w'.cell? ⟨gb320, 0, none⟩ = some (.int .i64 t313) ∧ w'.cell? ⟨gb320, 1, none⟩ = some (.int .i64 t314) ∧ w'.cell? ⟨gb320, 2, none⟩ = some (.int .i64 t315) ∧ w'.cell? ⟨gb321, 0, none⟩ = some (.int .i64 t316) ∧ w'.cell? ⟨gb321, 1, none⟩ = some (.int .i64 t317) ∧ w'.cell? ⟨gb321, 2, none⟩ = some (.int .i64 t318) ∧ w'.cell? ⟨gb326, 0, none⟩ = some (.int .i64 t323) ∧ w'.cell? ⟨gb326, 1, none⟩ = some (.int .i64 t324) ∧ w'.cell? ⟨gb326, 2, none⟩ = some (.int .i64 t325) ∧ w'.cell? ⟨gb319, 0, none⟩ = some (.int .i64 t310) ∧ w'.cell? ⟨gb319, 1, none⟩ = some (.int .i64 t311) ∧ w'.cell? ⟨gb319, 2, none⟩ = some (.int .i64 t312) ∧ w'.cell? ⟨gb307, 0, none⟩ = some (.int .i64 a0_0) ∧ w'.cell? ⟨gb307, 1, none⟩ = some (.int .i64 a0_1) ∧ w'.cell? ⟨gb307, 2, none⟩ = some (.int .i64 a0_2) ∧ w'.cell? ⟨gb307, 3, none⟩ = some (.int .i64 a0_3) ∧ w'.cell? ⟨gb308, 0, none⟩ = some (.int .i64 a1_0) ∧ w'.cell? ⟨gb308, 1, none⟩ = some (.int .i64 a1_1) ∧ w'.cell? ⟨gb308, 2, none⟩ = some (.int .i64 a1_2) ∧ w'.cell? ⟨gb308, 3, none⟩ = some (.int .i64 a1_3) ∧ w'.cell? ⟨gb309, 0, none⟩ = some (.int .i64 a2_0) ∧ w'.cell? ⟨gb309, 1, none⟩ = some (.int .i64 a2_1) ∧ w'.cell? ⟨gb309, 2, none⟩ = some (.int .i64 a2_2) ∧ w'.cell? ⟨gb309, 3, none⟩ = some (.int .i64 a2_3)) ∧ (Kd.R (Kd.int .i64) 3 w' w.heap.size (fun _ => True) s_ y339) ∧ (w'.heap[gb307]? = some (.cells #[.int .i64 a0_0, .int .i64 a0_1, .int .i64 a0_2, .int .i64 a0_3] 23 (0, 0))) ∧ (w'.heap[gb308]? = some (.cells #[.int .i64 a1_0, .int .i64 a1_1, .int .i64 a1_2, .int .i64 a1_3] 23 (0, 0))) ∧ (w'.heap[gb309]? = some (.cells #[.int .i64 a2_0, .int .i64 a2_1, .int .i64 a2_2, .int .i64 a2_3] 23 (0, 0))) ∧ (w'.heap[gb319]? = some (.cells #[.int .i64 t310, .int .i64 t311, .int .i64 t312] 128 (0, 0))) ∧ (w'.heap[gb320]? = some (.cells #[.int .i64 t313, .int .i64 t314, .int .i64 t315] 128 (0, 0))) ∧ (w'.heap[gb321]? = some (.cells #[.int .i64 t316, .int .i64 t317, .int .i64 t318] 128 (0, 0))) ∧ (w'.heap[gb326]? = some (.cells #[.int .i64 t323, .int .i64 t324, .int .i64 t325] 128 (0, 0))) ∧ (Below w.heap.size w w')) ?_ ?_
        rotate_left
        ·intro hJ2_4_7_20
         refine join_ (σ := Unit) 6 (bl 23 1035775) (fun s_ => [(27, .agg #[.int .i64 t327, .int .i64 t328, .int .i64 t329]), (29, .int .i64 t330), (32, .agg #[.int .i64 t331, .int .i64 t332, .int .i64 t333])]) (fun s_ w' => (w'.cell? ⟨gb320, 0, none⟩ = some (.int .i64 t313) ∧ w'.cell? ⟨gb320, 1, none⟩ = some (.int .i64 t314) ∧ w'.cell? ⟨gb320, 2, none⟩ = some (.int .i64 t315) ∧ w'.cell? ⟨gb321, 0, none⟩ = some (.int .i64 t316) ∧ w'.cell? ⟨gb321, 1, none⟩ = some (.int .i64 t317) ∧ w'.cell? ⟨gb321, 2, none⟩ = some (.int .i64 t318) ∧ w'.cell? ⟨gb326, 0, none⟩ = some (.int .i64 t323) ∧ w'.cell? ⟨gb326, 1, none⟩ = some (.int .i64 t324) ∧ w'.cell? ⟨gb326, 2, none⟩ = some (.int .i64 t325) ∧ w'.cell? ⟨gb319, 0, none⟩ = some (.int .i64 t310) ∧ w'.cell? ⟨gb319, 1, none⟩ = some (.int .i64 t311) ∧ w'.cell? ⟨gb319, 2, none⟩ = some (.int .i64 t312) ∧ w'.cell? ⟨gb307, 0, none⟩ = some (.int .i64 a0_0) ∧ w'.cell? ⟨gb307, 1, none⟩ = some (.int .i64 a0_1) ∧ w'.cell? ⟨gb307, 2, none⟩ = some (.int .i64 a0_2) ∧ w'.cell? ⟨gb307, 3, none⟩ = some (.int .i64 a0_3) ∧ w'.cell? ⟨gb308, 0, none⟩ = some (.int .i64 a1_0) ∧ w'.cell? ⟨gb308, 1, none⟩ = some (.int .i64 a1_1) ∧ w'.cell? ⟨gb308, 2, none⟩ = some (.int .i64 a1_2) ∧ w'.cell? ⟨gb308, 3, none⟩ = some (.int .i64 a1_3) ∧ w'.cell? ⟨gb309, 0, none⟩ = some (.int .i64 a2_0) ∧ w'.cell? ⟨gb309, 1, none⟩ = some (.int .i64 a2_1) ∧ w'.cell? ⟨gb309, 2, none⟩ = some (.int .i64 a2_2) ∧ w'.cell? ⟨gb309, 3, none⟩ = some (.int .i64 a2_3)) ∧ (w'.heap[gb307]? = some (.cells #[.int .i64 a0_0, .int .i64 a0_1, .int .i64 a0_2, .int .i64 a0_3] 23 (0, 0))) ∧ (w'.heap[gb308]? = some (.cells #[.int .i64 a1_0, .int .i64 a1_1, .int .i64 a1_2, .int .i64 a1_3] 23 (0, 0))) ∧ (w'.heap[gb309]? = some (.cells #[.int .i64 a2_0, .int .i64 a2_1, .int .i64 a2_2, .int .i64 a2_3] 23 (0, 0))) ∧ (w'.heap[gb319]? = some (.cells #[.int .i64 t310, .int .i64 t311, .int .i64 t312] 128 (0, 0))) ∧ (w'.heap[gb320]? = some (.cells #[.int .i64 t313, .int .i64 t314, .int .i64 t315] 128 (0, 0))) ∧ (w'.heap[gb321]? = some (.cells #[.int .i64 t316, .int .i64 t317, .int .i64 t318] 128 (0, 0))) ∧ (w'.heap[gb326]? = some (.cells #[.int .i64 t323, .int .i64 t324, .int .i64 t325] 128 (0, 0))) ∧ (Below w.heap.size w w')) ?_ ?_
         rotate_left
         ·intro hJ2_4_7
          refine join_ (σ := Value) 6 (bl 23 2084223) (fun s_ => [(27, .agg #[.int .i64 t327, .int .i64 t328, .int .i64 t329]), (29, .int .i64 t330), (45, s_)]) (fun s_ w' => (w'.cell? ⟨gb320, 0, none⟩ = some (.int .i64 t313) ∧ w'.cell? ⟨gb320, 1, none⟩ = some (.int .i64 t314) ∧ w'.cell? ⟨gb320, 2, none⟩ = some (.int .i64 t315) ∧ w'.cell? ⟨gb321, 0, none⟩ = some (.int .i64 t316) ∧ w'.cell? ⟨gb321, 1, none⟩ = some (.int .i64 t317) ∧ w'.cell? ⟨gb321, 2, none⟩ = some (.int .i64 t318) ∧ w'.cell? ⟨gb326, 0, none⟩ = some (.int .i64 t323) ∧ w'.cell? ⟨gb326, 1, none⟩ = some (.int .i64 t324) ∧ w'.cell? ⟨gb326, 2, none⟩ = some (.int .i64 t325) ∧ w'.cell? ⟨gb319, 0, none⟩ = some (.int .i64 t310) ∧ w'.cell? ⟨gb319, 1, none⟩ = some (.int .i64 t311) ∧ w'.cell? ⟨gb319, 2, none⟩ = some (.int .i64 t312) ∧ w'.cell? ⟨gb307, 0, none⟩ = some (.int .i64 a0_0) ∧ w'.cell? ⟨gb307, 1, none⟩ = some (.int .i64 a0_1) ∧ w'.cell? ⟨gb307, 2, none⟩ = some (.int .i64 a0_2) ∧ w'.cell? ⟨gb307, 3, none⟩ = some (.int .i64 a0_3) ∧ w'.cell? ⟨gb308, 0, none⟩ = some (.int .i64 a1_0) ∧ w'.cell? ⟨gb308, 1, none⟩ = some (.int .i64 a1_1) ∧ w'.cell? ⟨gb308, 2, none⟩ = some (.int .i64 a1_2) ∧ w'.cell? ⟨gb308, 3, none⟩ = some (.int .i64 a1_3) ∧ w'.cell? ⟨gb309, 0, none⟩ = some (.int .i64 a2_0) ∧ w'.cell? ⟨gb309, 1, none⟩ = some (.int .i64 a2_1) ∧ w'.cell? ⟨gb309, 2, none⟩ = some (.int .i64 a2_2) ∧ w'.cell? ⟨gb309, 3, none⟩ = some (.int .i64 a2_3)) ∧ (Kd.R (Kd.int .i64) 3 w' w.heap.size (fun _ => True) s_ y339) ∧ (w'.heap[gb307]? = some (.cells #[.int .i64 a0_0, .int .i64 a0_1, .int .i64 a0_2, .int .i64 a0_3] 23 (0, 0))) ∧ (w'.heap[gb308]? = some (.cells #[.int .i64 a1_0, .int .i64 a1_1, .int .i64 a1_2, .int .i64 a1_3] 23 (0, 0))) ∧ (w'.heap[gb309]? = some (.cells #[.int .i64 a2_0, .int .i64 a2_1, .int .i64 a2_2, .int .i64 a2_3] 23 (0, 0))) ∧ (w'.heap[gb319]? = some (.cells #[.int .i64 t310, .int .i64 t311, .int .i64 t312] 128 (0, 0))) ∧ (w'.heap[gb320]? = some (.cells #[.int .i64 t313, .int .i64 t314, .int .i64 t315] 128 (0, 0))) ∧ (w'.heap[gb321]? = some (.cells #[.int .i64 t316, .int .i64 t317, .int .i64 t318] 128 (0, 0))) ∧ (w'.heap[gb326]? = some (.cells #[.int .i64 t323, .int .i64 t324, .int .i64 t325] 128 (0, 0))) ∧ (Below w.heap.size w w')) ?_ ?_
          rotate_left
          ·intro hJ2_4_20
           refine join_ (σ := Unit) 7 (bl 23 1035647) (fun s_ => [(27, .agg #[.int .i64 t327, .int .i64 t328, .int .i64 t329]), (29, .int .i64 t330)]) (fun s_ w' => (w'.cell? ⟨gb320, 0, none⟩ = some (.int .i64 t313) ∧ w'.cell? ⟨gb320, 1, none⟩ = some (.int .i64 t314) ∧ w'.cell? ⟨gb320, 2, none⟩ = some (.int .i64 t315) ∧ w'.cell? ⟨gb321, 0, none⟩ = some (.int .i64 t316) ∧ w'.cell? ⟨gb321, 1, none⟩ = some (.int .i64 t317) ∧ w'.cell? ⟨gb321, 2, none⟩ = some (.int .i64 t318) ∧ w'.cell? ⟨gb326, 0, none⟩ = some (.int .i64 t323) ∧ w'.cell? ⟨gb326, 1, none⟩ = some (.int .i64 t324) ∧ w'.cell? ⟨gb326, 2, none⟩ = some (.int .i64 t325) ∧ w'.cell? ⟨gb319, 0, none⟩ = some (.int .i64 t310) ∧ w'.cell? ⟨gb319, 1, none⟩ = some (.int .i64 t311) ∧ w'.cell? ⟨gb319, 2, none⟩ = some (.int .i64 t312) ∧ w'.cell? ⟨gb307, 0, none⟩ = some (.int .i64 a0_0) ∧ w'.cell? ⟨gb307, 1, none⟩ = some (.int .i64 a0_1) ∧ w'.cell? ⟨gb307, 2, none⟩ = some (.int .i64 a0_2) ∧ w'.cell? ⟨gb307, 3, none⟩ = some (.int .i64 a0_3) ∧ w'.cell? ⟨gb308, 0, none⟩ = some (.int .i64 a1_0) ∧ w'.cell? ⟨gb308, 1, none⟩ = some (.int .i64 a1_1) ∧ w'.cell? ⟨gb308, 2, none⟩ = some (.int .i64 a1_2) ∧ w'.cell? ⟨gb308, 3, none⟩ = some (.int .i64 a1_3) ∧ w'.cell? ⟨gb309, 0, none⟩ = some (.int .i64 a2_0) ∧ w'.cell? ⟨gb309, 1, none⟩ = some (.int .i64 a2_1) ∧ w'.cell? ⟨gb309, 2, none⟩ = some (.int .i64 a2_2) ∧ w'.cell? ⟨gb309, 3, none⟩ = some (.int .i64 a2_3)) ∧ (w'.heap[gb307]? = some (.cells #[.int .i64 a0_0, .int .i64 a0_1, .int .i64 a0_2, .int .i64 a0_3] 23 (0, 0))) ∧ (w'.heap[gb308]? = some (.cells #[.int .i64 a1_0, .int .i64 a1_1, .int .i64 a1_2, .int .i64 a1_3] 23 (0, 0))) ∧ (w'.heap[gb309]? = some (.cells #[.int .i64 a2_0, .int .i64 a2_1, .int .i64 a2_2, .int .i64 a2_3] 23 (0, 0))) ∧ (w'.heap[gb319]? = some (.cells #[.int .i64 t310, .int .i64 t311, .int .i64 t312] 128 (0, 0))) ∧ (w'.heap[gb320]? = some (.cells #[.int .i64 t313, .int .i64 t314, .int .i64 t315] 128 (0, 0))) ∧ (w'.heap[gb321]? = some (.cells #[.int .i64 t316, .int .i64 t317, .int .i64 t318] 128 (0, 0))) ∧ (w'.heap[gb326]? = some (.cells #[.int .i64 t323, .int .i64 t324, .int .i64 t325] 128 (0, 0))) ∧ (Below w.heap.size w w')) ?_ ?_
           rotate_left
           ·intro hJ2_4
            refine join_ (σ := Value) 7 (bl 23 2084207) (fun s_ => [(27, .agg #[.int .i64 t327, .int .i64 t328, .int .i64 t329]), (45, s_)]) (fun s_ w' => (w'.cell? ⟨gb320, 0, none⟩ = some (.int .i64 t313) ∧ w'.cell? ⟨gb320, 1, none⟩ = some (.int .i64 t314) ∧ w'.cell? ⟨gb320, 2, none⟩ = some (.int .i64 t315) ∧ w'.cell? ⟨gb321, 0, none⟩ = some (.int .i64 t316) ∧ w'.cell? ⟨gb321, 1, none⟩ = some (.int .i64 t317) ∧ w'.cell? ⟨gb321, 2, none⟩ = some (.int .i64 t318) ∧ w'.cell? ⟨gb326, 0, none⟩ = some (.int .i64 t323) ∧ w'.cell? ⟨gb326, 1, none⟩ = some (.int .i64 t324) ∧ w'.cell? ⟨gb326, 2, none⟩ = some (.int .i64 t325) ∧ w'.cell? ⟨gb319, 0, none⟩ = some (.int .i64 t310) ∧ w'.cell? ⟨gb319, 1, none⟩ = some (.int .i64 t311) ∧ w'.cell? ⟨gb319, 2, none⟩ = some (.int .i64 t312) ∧ w'.cell? ⟨gb307, 0, none⟩ = some (.int .i64 a0_0) ∧ w'.cell? ⟨gb307, 1, none⟩ = some (.int .i64 a0_1) ∧ w'.cell? ⟨gb307, 2, none⟩ = some (.int .i64 a0_2) ∧ w'.cell? ⟨gb307, 3, none⟩ = some (.int .i64 a0_3) ∧ w'.cell? ⟨gb308, 0, none⟩ = some (.int .i64 a1_0) ∧ w'.cell? ⟨gb308, 1, none⟩ = some (.int .i64 a1_1) ∧ w'.cell? ⟨gb308, 2, none⟩ = some (.int .i64 a1_2) ∧ w'.cell? ⟨gb308, 3, none⟩ = some (.int .i64 a1_3) ∧ w'.cell? ⟨gb309, 0, none⟩ = some (.int .i64 a2_0) ∧ w'.cell? ⟨gb309, 1, none⟩ = some (.int .i64 a2_1) ∧ w'.cell? ⟨gb309, 2, none⟩ = some (.int .i64 a2_2) ∧ w'.cell? ⟨gb309, 3, none⟩ = some (.int .i64 a2_3)) ∧ (Kd.R (Kd.int .i64) 3 w' w.heap.size (fun _ => True) s_ y339) ∧ (w'.heap[gb307]? = some (.cells #[.int .i64 a0_0, .int .i64 a0_1, .int .i64 a0_2, .int .i64 a0_3] 23 (0, 0))) ∧ (w'.heap[gb308]? = some (.cells #[.int .i64 a1_0, .int .i64 a1_1, .int .i64 a1_2, .int .i64 a1_3] 23 (0, 0))) ∧ (w'.heap[gb309]? = some (.cells #[.int .i64 a2_0, .int .i64 a2_1, .int .i64 a2_2, .int .i64 a2_3] 23 (0, 0))) ∧ (w'.heap[gb319]? = some (.cells #[.int .i64 t310, .int .i64 t311, .int .i64 t312] 128 (0, 0))) ∧ (w'.heap[gb320]? = some (.cells #[.int .i64 t313, .int .i64 t314, .int .i64 t315] 128 (0, 0))) ∧ (w'.heap[gb321]? = some (.cells #[.int .i64 t316, .int .i64 t317, .int .i64 t318] 128 (0, 0))) ∧ (w'.heap[gb326]? = some (.cells #[.int .i64 t323, .int .i64 t324, .int .i64 t325] 128 (0, 0))) ∧ (Below w.heap.size w w')) ?_ ?_
            rotate_left
            ·intro hJ2_20
             refine join_ (σ := Unit) 8 (bl 23 1035631) (fun s_ => [(27, .agg #[.int .i64 t327, .int .i64 t328, .int .i64 t329])]) (fun s_ w' => (w'.cell? ⟨gb320, 0, none⟩ = some (.int .i64 t313) ∧ w'.cell? ⟨gb320, 1, none⟩ = some (.int .i64 t314) ∧ w'.cell? ⟨gb320, 2, none⟩ = some (.int .i64 t315) ∧ w'.cell? ⟨gb321, 0, none⟩ = some (.int .i64 t316) ∧ w'.cell? ⟨gb321, 1, none⟩ = some (.int .i64 t317) ∧ w'.cell? ⟨gb321, 2, none⟩ = some (.int .i64 t318) ∧ w'.cell? ⟨gb326, 0, none⟩ = some (.int .i64 t323) ∧ w'.cell? ⟨gb326, 1, none⟩ = some (.int .i64 t324) ∧ w'.cell? ⟨gb326, 2, none⟩ = some (.int .i64 t325) ∧ w'.cell? ⟨gb319, 0, none⟩ = some (.int .i64 t310) ∧ w'.cell? ⟨gb319, 1, none⟩ = some (.int .i64 t311) ∧ w'.cell? ⟨gb319, 2, none⟩ = some (.int .i64 t312) ∧ w'.cell? ⟨gb307, 0, none⟩ = some (.int .i64 a0_0) ∧ w'.cell? ⟨gb307, 1, none⟩ = some (.int .i64 a0_1) ∧ w'.cell? ⟨gb307, 2, none⟩ = some (.int .i64 a0_2) ∧ w'.cell? ⟨gb307, 3, none⟩ = some (.int .i64 a0_3) ∧ w'.cell? ⟨gb308, 0, none⟩ = some (.int .i64 a1_0) ∧ w'.cell? ⟨gb308, 1, none⟩ = some (.int .i64 a1_1) ∧ w'.cell? ⟨gb308, 2, none⟩ = some (.int .i64 a1_2) ∧ w'.cell? ⟨gb308, 3, none⟩ = some (.int .i64 a1_3) ∧ w'.cell? ⟨gb309, 0, none⟩ = some (.int .i64 a2_0) ∧ w'.cell? ⟨gb309, 1, none⟩ = some (.int .i64 a2_1) ∧ w'.cell? ⟨gb309, 2, none⟩ = some (.int .i64 a2_2) ∧ w'.cell? ⟨gb309, 3, none⟩ = some (.int .i64 a2_3)) ∧ (w'.heap[gb307]? = some (.cells #[.int .i64 a0_0, .int .i64 a0_1, .int .i64 a0_2, .int .i64 a0_3] 23 (0, 0))) ∧ (w'.heap[gb308]? = some (.cells #[.int .i64 a1_0, .int .i64 a1_1, .int .i64 a1_2, .int .i64 a1_3] 23 (0, 0))) ∧ (w'.heap[gb309]? = some (.cells #[.int .i64 a2_0, .int .i64 a2_1, .int .i64 a2_2, .int .i64 a2_3] 23 (0, 0))) ∧ (w'.heap[gb319]? = some (.cells #[.int .i64 t310, .int .i64 t311, .int .i64 t312] 128 (0, 0))) ∧ (w'.heap[gb320]? = some (.cells #[.int .i64 t313, .int .i64 t314, .int .i64 t315] 128 (0, 0))) ∧ (w'.heap[gb321]? = some (.cells #[.int .i64 t316, .int .i64 t317, .int .i64 t318] 128 (0, 0))) ∧ (w'.heap[gb326]? = some (.cells #[.int .i64 t323, .int .i64 t324, .int .i64 t325] 128 (0, 0))) ∧ (Below w.heap.size w w')) ?_ ?_
             rotate_left
             ·intro hJ2
              refine join_ (σ := Value) 8 (bl 23 2084203) (fun s_ => [(45, s_)]) (fun s_ w' => (w'.cell? ⟨gb320, 0, none⟩ = some (.int .i64 t313) ∧ w'.cell? ⟨gb320, 1, none⟩ = some (.int .i64 t314) ∧ w'.cell? ⟨gb320, 2, none⟩ = some (.int .i64 t315) ∧ w'.cell? ⟨gb321, 0, none⟩ = some (.int .i64 t316) ∧ w'.cell? ⟨gb321, 1, none⟩ = some (.int .i64 t317) ∧ w'.cell? ⟨gb321, 2, none⟩ = some (.int .i64 t318) ∧ w'.cell? ⟨gb326, 0, none⟩ = some (.int .i64 t323) ∧ w'.cell? ⟨gb326, 1, none⟩ = some (.int .i64 t324) ∧ w'.cell? ⟨gb326, 2, none⟩ = some (.int .i64 t325) ∧ w'.cell? ⟨gb319, 0, none⟩ = some (.int .i64 t310) ∧ w'.cell? ⟨gb319, 1, none⟩ = some (.int .i64 t311) ∧ w'.cell? ⟨gb319, 2, none⟩ = some (.int .i64 t312) ∧ w'.cell? ⟨gb307, 0, none⟩ = some (.int .i64 a0_0) ∧ w'.cell? ⟨gb307, 1, none⟩ = some (.int .i64 a0_1) ∧ w'.cell? ⟨gb307, 2, none⟩ = some (.int .i64 a0_2) ∧ w'.cell? ⟨gb307, 3, none⟩ = some (.int .i64 a0_3) ∧ w'.cell? ⟨gb308, 0, none⟩ = some (.int .i64 a1_0) ∧ w'.cell? ⟨gb308, 1, none⟩ = some (.int .i64 a1_1) ∧ w'.cell? ⟨gb308, 2, none⟩ = some (.int .i64 a1_2) ∧ w'.cell? ⟨gb308, 3, none⟩ = some (.int .i64 a1_3) ∧ w'.cell? ⟨gb309, 0, none⟩ = some (.int .i64 a2_0) ∧ w'.cell? ⟨gb309, 1, none⟩ = some (.int .i64 a2_1) ∧ w'.cell? ⟨gb309, 2, none⟩ = some (.int .i64 a2_2) ∧ w'.cell? ⟨gb309, 3, none⟩ = some (.int .i64 a2_3)) ∧ (Kd.R (Kd.int .i64) 3 w' w.heap.size (fun _ => True) s_ y339) ∧ (w'.heap[gb307]? = some (.cells #[.int .i64 a0_0, .int .i64 a0_1, .int .i64 a0_2, .int .i64 a0_3] 23 (0, 0))) ∧ (w'.heap[gb308]? = some (.cells #[.int .i64 a1_0, .int .i64 a1_1, .int .i64 a1_2, .int .i64 a1_3] 23 (0, 0))) ∧ (w'.heap[gb309]? = some (.cells #[.int .i64 a2_0, .int .i64 a2_1, .int .i64 a2_2, .int .i64 a2_3] 23 (0, 0))) ∧ (w'.heap[gb319]? = some (.cells #[.int .i64 t310, .int .i64 t311, .int .i64 t312] 128 (0, 0))) ∧ (w'.heap[gb320]? = some (.cells #[.int .i64 t313, .int .i64 t314, .int .i64 t315] 128 (0, 0))) ∧ (w'.heap[gb321]? = some (.cells #[.int .i64 t316, .int .i64 t317, .int .i64 t318] 128 (0, 0))) ∧ (w'.heap[gb326]? = some (.cells #[.int .i64 t323, .int .i64 t324, .int .i64 t325] 128 (0, 0))) ∧ (Below w.heap.size w w')) ?_ ?_
              rotate_left
              ·intro hJ20
               refine two_ (i := 2) (j := 20) (Ni := some 27) (Nj := some 45) (bl 23 1035631) (bl 23 2084203) rfl rfl rfl rfl (two_of HT_.out (by kernel_rfl)) (by decide) (by decide) (fun K hK => ?_) (fun K hK => ?_)
               ·skip
                refine gO Try.func148 #[.agg #[.int .i64 t313, .int .i64 t314, .int .i64 t315], .agg #[.int .i64 t316, .int .i64 t317, .int .i64 t318]] ?_
                with_reducible refine (impl_crossOf.calls t313 t314 t315 t316 t317 t318 t327 t328 t329 _ A10.out).mono ?_
                rintro e w65 ⟨rfl, hb⟩
                refine ⟨_, rfl, ?_⟩
                have n0_ := kb BK307 hb
                have n1_ := kb BK308 hb
                have n2_ := kb BK309 hb
                have n3_ := kb BK319 hb
                have n4_ := kb BK320 hb
                have n5_ := kb BK321 hb
                have n6_ := kb BK326 hb
                have n7_ := bt HB hb
                clear BK307
                clear BK308
                clear BK309
                clear BK319
                clear BK320
                clear BK321
                clear BK326
                clear HB
                have BK307 := n0_
                have BK308 := n1_
                have BK309 := n2_
                have BK319 := n3_
                have BK320 := n4_
                have BK321 := n5_
                have BK326 := n6_
                have HB := n7_
                clear n0_ n1_ n2_ n3_ n4_ n5_ n6_ n7_
                (try clear hb)
                (try clear hb2)
                (try clear hk)
                (try clear hi)
                refine ko hK (fun hHeld => ?_)
                clear hK K
                refine nm 27 ?_
                exact norm_ (by first | (simp only [putAll, Act.put, List.setIfInBounds_toArray, List.set_cons_zero, List.set_cons_succ]; done) | (simp only [putAll, Act.put, List.setIfInBounds_toArray, List.set_cons_zero, List.set_cons_succ]; rfl)) (hJ2 () _ ⟨hHeld, (kbx BK307), (kbx BK308), (kbx BK309), (kbx BK319), (kbx BK320), (kbx BK321), (kbx BK326), (hbx HB)⟩)
               ·skip
                refine Kd.R_lit_step (Kd.int .i64) _ 3 ?hg (N := 45) ?hd (xs := ([a0_3, a1_3, a2_3] : List Int)) (inner := [.int .i64 a0_3, .int .i64 a1_3, .int .i64 a2_3]) (ok := fun _ => True) (okp := fun _ => True) ?hr ?hp (fun _ hk => hk) trivial (Below.refl _ _) (Nat.le_refl _) (by simp) ?_; (case hd => rfl); (case hg => rfl); (case hr => first | (go_simp; done) | (go_simp; rfl)); (case hp => exact (Reps.one (show Kd.M (Kd.int .i64) _ _ _ a0_3 [.int .i64 a0_3] from rfl) (Reps.one (show Kd.M (Kd.int .i64) _ _ _ a1_3 [.int .i64 a1_3] from rfl) (Reps.one (show Kd.M (Kd.int .i64) _ _ _ a2_3 [.int .i64 a2_3] from rfl) (Reps.none _ _)))))
                intro v340 w65 ho66 hb hg_ hnew_
                clear hg_ hnew_
                (first | rw [← Ny339.out] at ho66 | (simp only [Int.reduceToNat] at ho66; rw [← Ny339.out] at ho66))
                have n0_ := Aside0.mk (Kd.R_lower ho66 (below_size (hbx HB)))
                have n1_ := kb BK307 hb
                have n2_ := kb BK308 hb
                have n3_ := kb BK309 hb
                have n4_ := kb BK319 hb
                have n5_ := kb BK320 hb
                have n6_ := kb BK321 hb
                have n7_ := kb BK326 hb
                have n8_ := bt HB hb
                clear BK307
                clear BK308
                clear BK309
                clear BK319
                clear BK320
                clear BK321
                clear BK326
                clear HB
                have HO341 := n0_
                have BK307 := n1_
                have BK308 := n2_
                have BK309 := n3_
                have BK319 := n4_
                have BK320 := n5_
                have BK321 := n6_
                have BK326 := n7_
                have HB := n8_
                clear n0_ n1_ n2_ n3_ n4_ n5_ n6_ n7_ n8_
                clear hb ho66
                refine ko hK (fun hHeld => ?_)
                clear hK K
                refine nm 45 ?_
                exact norm_ (by first | (simp only [putAll, Act.put, List.setIfInBounds_toArray, List.set_cons_zero, List.set_cons_succ]; done) | (simp only [putAll, Act.put, List.setIfInBounds_toArray, List.set_cons_zero, List.set_cons_succ]; rfl)) (hJ20 (v340) _ ⟨hHeld, (by (with_reducible repeat (first | apply Kd.R_alloc | apply Kd.R_drewN | apply Kd.R_drew)); exact HO341.out), (kbx BK307), (kbx BK308), (kbx BK309), (kbx BK319), (kbx BK320), (kbx BK321), (kbx BK326), (hbx HB)⟩)
              ·skip
               rintro v340 w67 ⟨hS_, h0_, h1_, h2_, h3_, h4_, h5_, h6_, h7_, h8_⟩
               have n0_ : Aside0 (Kd.R (Kd.int .i64) 3 w67 w.heap.size (fun _ => True) v340 y339) := ⟨h0_⟩
               have n1_ : Aside0 (w67.heap[gb307]? = some (.cells #[.int .i64 a0_0, .int .i64 a0_1, .int .i64 a0_2, .int .i64 a0_3] 23 (0, 0))) := ⟨h1_⟩
               have n2_ : Aside0 (w67.heap[gb308]? = some (.cells #[.int .i64 a1_0, .int .i64 a1_1, .int .i64 a1_2, .int .i64 a1_3] 23 (0, 0))) := ⟨h2_⟩
               have n3_ : Aside0 (w67.heap[gb309]? = some (.cells #[.int .i64 a2_0, .int .i64 a2_1, .int .i64 a2_2, .int .i64 a2_3] 23 (0, 0))) := ⟨h3_⟩
               have n4_ : Aside0 (w67.heap[gb319]? = some (.cells #[.int .i64 t310, .int .i64 t311, .int .i64 t312] 128 (0, 0))) := ⟨h4_⟩
               have n5_ : Aside0 (w67.heap[gb320]? = some (.cells #[.int .i64 t313, .int .i64 t314, .int .i64 t315] 128 (0, 0))) := ⟨h5_⟩
               have n6_ : Aside0 (w67.heap[gb321]? = some (.cells #[.int .i64 t316, .int .i64 t317, .int .i64 t318] 128 (0, 0))) := ⟨h6_⟩
               have n7_ : Aside0 (w67.heap[gb326]? = some (.cells #[.int .i64 t323, .int .i64 t324, .int .i64 t325] 128 (0, 0))) := ⟨h7_⟩
               have n8_ : Aside0 (Below w.heap.size w w67) := ⟨h8_⟩
               clear BK307
               clear BK308
               clear BK309
               clear BK319
               clear BK320
               clear BK321
               clear BK326
               clear HB
               clear h0_ h1_ h2_ h3_ h4_ h5_ h6_ h7_ h8_
               have HO341 := n0_
               have BK307 := n1_
               have BK308 := n2_
               have BK309 := n3_
               have BK319 := n4_
               have BK320 := n5_
               have BK321 := n6_
               have BK326 := n7_
               have HB := n8_
               clear n0_ n1_ n2_ n3_ n4_ n5_ n6_ n7_ n8_
               have hHeld : w67.cell? ⟨gb320, 0, none⟩ = some (.int .i64 t313) ∧ w67.cell? ⟨gb320, 1, none⟩ = some (.int .i64 t314) ∧ w67.cell? ⟨gb320, 2, none⟩ = some (.int .i64 t315) ∧ w67.cell? ⟨gb321, 0, none⟩ = some (.int .i64 t316) ∧ w67.cell? ⟨gb321, 1, none⟩ = some (.int .i64 t317) ∧ w67.cell? ⟨gb321, 2, none⟩ = some (.int .i64 t318) ∧ w67.cell? ⟨gb326, 0, none⟩ = some (.int .i64 t323) ∧ w67.cell? ⟨gb326, 1, none⟩ = some (.int .i64 t324) ∧ w67.cell? ⟨gb326, 2, none⟩ = some (.int .i64 t325) ∧ w67.cell? ⟨gb319, 0, none⟩ = some (.int .i64 t310) ∧ w67.cell? ⟨gb319, 1, none⟩ = some (.int .i64 t311) ∧ w67.cell? ⟨gb319, 2, none⟩ = some (.int .i64 t312) ∧ w67.cell? ⟨gb307, 0, none⟩ = some (.int .i64 a0_0) ∧ w67.cell? ⟨gb307, 1, none⟩ = some (.int .i64 a0_1) ∧ w67.cell? ⟨gb307, 2, none⟩ = some (.int .i64 a0_2) ∧ w67.cell? ⟨gb307, 3, none⟩ = some (.int .i64 a0_3) ∧ w67.cell? ⟨gb308, 0, none⟩ = some (.int .i64 a1_0) ∧ w67.cell? ⟨gb308, 1, none⟩ = some (.int .i64 a1_1) ∧ w67.cell? ⟨gb308, 2, none⟩ = some (.int .i64 a1_2) ∧ w67.cell? ⟨gb308, 3, none⟩ = some (.int .i64 a1_3) ∧ w67.cell? ⟨gb309, 0, none⟩ = some (.int .i64 a2_0) ∧ w67.cell? ⟨gb309, 1, none⟩ = some (.int .i64 a2_1) ∧ w67.cell? ⟨gb309, 2, none⟩ = some (.int .i64 a2_2) ∧ w67.cell? ⟨gb309, 3, none⟩ = some (.int .i64 a2_3) := hS_
               refine norm_ (a' := ?_) ?_ ?_
               rotate_left
               ·simp only [putAll, Act.put, List.setIfInBounds_toArray, List.set_cons_zero, List.set_cons_succ]
                rfl
               refine oS 2 27 2084207 (fun K hK => ?_)
               refine gO Try.func148 #[.agg #[.int .i64 t313, .int .i64 t314, .int .i64 t315], .agg #[.int .i64 t316, .int .i64 t317, .int .i64 t318]] ?_
               with_reducible refine (impl_crossOf.calls t313 t314 t315 t316 t317 t318 t327 t328 t329 _ A10.out).mono ?_
               rintro e w68 ⟨rfl, hb⟩
               refine ⟨_, rfl, ?_⟩
               have n0_ := Aside0.mk (Kd.R_below (by (with_reducible repeat (first | apply Kd.R_alloc | apply Kd.R_drewN | apply Kd.R_drew)); exact HO341.out) hb)
               have n1_ := kb BK307 hb
               have n2_ := kb BK308 hb
               have n3_ := kb BK309 hb
               have n4_ := kb BK319 hb
               have n5_ := kb BK320 hb
               have n6_ := kb BK321 hb
               have n7_ := kb BK326 hb
               have n8_ := bt HB hb
               clear HO341
               clear BK307
               clear BK308
               clear BK309
               clear BK319
               clear BK320
               clear BK321
               clear BK326
               clear HB
               have HO341 := n0_
               have BK307 := n1_
               have BK308 := n2_
               have BK309 := n3_
               have BK319 := n4_
               have BK320 := n5_
               have BK321 := n6_
               have BK326 := n7_
               have HB := n8_
               clear n0_ n1_ n2_ n3_ n4_ n5_ n6_ n7_ n8_
               (try clear hb)
               (try clear hb2)
               (try clear hk)
               (try clear hi)
               refine ko hK (fun hHeld => ?_)
               clear hK K
               refine nm 27 ?_
               exact norm_ (by first | (simp only [putAll, Act.put, List.setIfInBounds_toArray, List.set_cons_zero, List.set_cons_succ]; done) | (simp only [putAll, Act.put, List.setIfInBounds_toArray, List.set_cons_zero, List.set_cons_succ]; rfl)) (hJ2_20 (v340) _ ⟨hHeld, (by (with_reducible repeat (first | apply Kd.R_alloc | apply Kd.R_drewN | apply Kd.R_drew)); exact HO341.out), (kbx BK307), (kbx BK308), (kbx BK309), (kbx BK319), (kbx BK320), (kbx BK321), (kbx BK326), (hbx HB)⟩)
             ·skip
              rintro _ w66 ⟨hS_, h0_, h1_, h2_, h3_, h4_, h5_, h6_, h7_⟩
              have n0_ : Aside0 (w66.heap[gb307]? = some (.cells #[.int .i64 a0_0, .int .i64 a0_1, .int .i64 a0_2, .int .i64 a0_3] 23 (0, 0))) := ⟨h0_⟩
              have n1_ : Aside0 (w66.heap[gb308]? = some (.cells #[.int .i64 a1_0, .int .i64 a1_1, .int .i64 a1_2, .int .i64 a1_3] 23 (0, 0))) := ⟨h1_⟩
              have n2_ : Aside0 (w66.heap[gb309]? = some (.cells #[.int .i64 a2_0, .int .i64 a2_1, .int .i64 a2_2, .int .i64 a2_3] 23 (0, 0))) := ⟨h2_⟩
              have n3_ : Aside0 (w66.heap[gb319]? = some (.cells #[.int .i64 t310, .int .i64 t311, .int .i64 t312] 128 (0, 0))) := ⟨h3_⟩
              have n4_ : Aside0 (w66.heap[gb320]? = some (.cells #[.int .i64 t313, .int .i64 t314, .int .i64 t315] 128 (0, 0))) := ⟨h4_⟩
              have n5_ : Aside0 (w66.heap[gb321]? = some (.cells #[.int .i64 t316, .int .i64 t317, .int .i64 t318] 128 (0, 0))) := ⟨h5_⟩
              have n6_ : Aside0 (w66.heap[gb326]? = some (.cells #[.int .i64 t323, .int .i64 t324, .int .i64 t325] 128 (0, 0))) := ⟨h6_⟩
              have n7_ : Aside0 (Below w.heap.size w w66) := ⟨h7_⟩
              clear BK307
              clear BK308
              clear BK309
              clear BK319
              clear BK320
              clear BK321
              clear BK326
              clear HB
              clear h0_ h1_ h2_ h3_ h4_ h5_ h6_ h7_
              have BK307 := n0_
              have BK308 := n1_
              have BK309 := n2_
              have BK319 := n3_
              have BK320 := n4_
              have BK321 := n5_
              have BK326 := n6_
              have HB := n7_
              clear n0_ n1_ n2_ n3_ n4_ n5_ n6_ n7_
              have hHeld : w66.cell? ⟨gb320, 0, none⟩ = some (.int .i64 t313) ∧ w66.cell? ⟨gb320, 1, none⟩ = some (.int .i64 t314) ∧ w66.cell? ⟨gb320, 2, none⟩ = some (.int .i64 t315) ∧ w66.cell? ⟨gb321, 0, none⟩ = some (.int .i64 t316) ∧ w66.cell? ⟨gb321, 1, none⟩ = some (.int .i64 t317) ∧ w66.cell? ⟨gb321, 2, none⟩ = some (.int .i64 t318) ∧ w66.cell? ⟨gb326, 0, none⟩ = some (.int .i64 t323) ∧ w66.cell? ⟨gb326, 1, none⟩ = some (.int .i64 t324) ∧ w66.cell? ⟨gb326, 2, none⟩ = some (.int .i64 t325) ∧ w66.cell? ⟨gb319, 0, none⟩ = some (.int .i64 t310) ∧ w66.cell? ⟨gb319, 1, none⟩ = some (.int .i64 t311) ∧ w66.cell? ⟨gb319, 2, none⟩ = some (.int .i64 t312) ∧ w66.cell? ⟨gb307, 0, none⟩ = some (.int .i64 a0_0) ∧ w66.cell? ⟨gb307, 1, none⟩ = some (.int .i64 a0_1) ∧ w66.cell? ⟨gb307, 2, none⟩ = some (.int .i64 a0_2) ∧ w66.cell? ⟨gb307, 3, none⟩ = some (.int .i64 a0_3) ∧ w66.cell? ⟨gb308, 0, none⟩ = some (.int .i64 a1_0) ∧ w66.cell? ⟨gb308, 1, none⟩ = some (.int .i64 a1_1) ∧ w66.cell? ⟨gb308, 2, none⟩ = some (.int .i64 a1_2) ∧ w66.cell? ⟨gb308, 3, none⟩ = some (.int .i64 a1_3) ∧ w66.cell? ⟨gb309, 0, none⟩ = some (.int .i64 a2_0) ∧ w66.cell? ⟨gb309, 1, none⟩ = some (.int .i64 a2_1) ∧ w66.cell? ⟨gb309, 2, none⟩ = some (.int .i64 a2_2) ∧ w66.cell? ⟨gb309, 3, none⟩ = some (.int .i64 a2_3) := hS_
              refine norm_ (a' := ?_) ?_ ?_
              rotate_left
              ·simp only [putAll, Act.put, List.setIfInBounds_toArray, List.set_cons_zero, List.set_cons_succ]
               rfl
              refine two_ (i := 4) (j := 20) (Ni := some 29) (Nj := some 45) (bl 23 1035647) (bl 23 2084207) rfl rfl rfl rfl (two_of HT_.out (by kernel_rfl)) (by decide) (by decide) (fun K hK => ?_) (fun K hK => ?_)
              ·skip
               refine gO Try.func172 #[.agg #[.int .i64 t327, .int .i64 t328, .int .i64 t329], .agg #[.int .i64 t323, .int .i64 t324, .int .i64 t325]] ?_
               with_reducible refine (impl_dot.calls t327 t328 t329 t323 t324 t325 t330 _ A11.out).mono ?_
               rintro e w67 ⟨rfl, hb⟩
               refine ⟨_, rfl, ?_⟩
               have n0_ := kb BK307 hb
               have n1_ := kb BK308 hb
               have n2_ := kb BK309 hb
               have n3_ := kb BK319 hb
               have n4_ := kb BK320 hb
               have n5_ := kb BK321 hb
               have n6_ := kb BK326 hb
               have n7_ := bt HB hb
               clear BK307
               clear BK308
               clear BK309
               clear BK319
               clear BK320
               clear BK321
               clear BK326
               clear HB
               have BK307 := n0_
               have BK308 := n1_
               have BK309 := n2_
               have BK319 := n3_
               have BK320 := n4_
               have BK321 := n5_
               have BK326 := n6_
               have HB := n7_
               clear n0_ n1_ n2_ n3_ n4_ n5_ n6_ n7_
               (try clear hb)
               (try clear hb2)
               (try clear hk)
               (try clear hi)
               refine ko hK (fun hHeld => ?_)
               clear hK K
               refine nm 29 ?_
               exact norm_ (by first | (simp only [putAll, Act.put, List.setIfInBounds_toArray, List.set_cons_zero, List.set_cons_succ]; done) | (simp only [putAll, Act.put, List.setIfInBounds_toArray, List.set_cons_zero, List.set_cons_succ]; rfl)) (hJ2_4 () _ ⟨hHeld, (kbx BK307), (kbx BK308), (kbx BK309), (kbx BK319), (kbx BK320), (kbx BK321), (kbx BK326), (hbx HB)⟩)
              ·skip
               refine Kd.R_lit_step (Kd.int .i64) _ 3 ?hg (N := 45) ?hd (xs := ([a0_3, a1_3, a2_3] : List Int)) (inner := [.int .i64 a0_3, .int .i64 a1_3, .int .i64 a2_3]) (ok := fun _ => True) (okp := fun _ => True) ?hr ?hp (fun _ hk => hk) trivial (Below.refl _ _) (Nat.le_refl _) (by simp) ?_; (case hd => rfl); (case hg => rfl); (case hr => first | (go_simp; done) | (go_simp; rfl)); (case hp => exact (Reps.one (show Kd.M (Kd.int .i64) _ _ _ a0_3 [.int .i64 a0_3] from rfl) (Reps.one (show Kd.M (Kd.int .i64) _ _ _ a1_3 [.int .i64 a1_3] from rfl) (Reps.one (show Kd.M (Kd.int .i64) _ _ _ a2_3 [.int .i64 a2_3] from rfl) (Reps.none _ _)))))
               intro v340 w67 ho68 hb hg_ hnew_
               clear hg_ hnew_
               (first | rw [← Ny339.out] at ho68 | (simp only [Int.reduceToNat] at ho68; rw [← Ny339.out] at ho68))
               have n0_ := Aside0.mk (Kd.R_lower ho68 (below_size (hbx HB)))
               have n1_ := kb BK307 hb
               have n2_ := kb BK308 hb
               have n3_ := kb BK309 hb
               have n4_ := kb BK319 hb
               have n5_ := kb BK320 hb
               have n6_ := kb BK321 hb
               have n7_ := kb BK326 hb
               have n8_ := bt HB hb
               clear BK307
               clear BK308
               clear BK309
               clear BK319
               clear BK320
               clear BK321
               clear BK326
               clear HB
               have HO341 := n0_
               have BK307 := n1_
               have BK308 := n2_
               have BK309 := n3_
               have BK319 := n4_
               have BK320 := n5_
               have BK321 := n6_
               have BK326 := n7_
               have HB := n8_
               clear n0_ n1_ n2_ n3_ n4_ n5_ n6_ n7_ n8_
               clear hb ho68
               refine ko hK (fun hHeld => ?_)
               clear hK K
               refine nm 45 ?_
               exact norm_ (by first | (simp only [putAll, Act.put, List.setIfInBounds_toArray, List.set_cons_zero, List.set_cons_succ]; done) | (simp only [putAll, Act.put, List.setIfInBounds_toArray, List.set_cons_zero, List.set_cons_succ]; rfl)) (hJ2_20 (v340) _ ⟨hHeld, (by (with_reducible repeat (first | apply Kd.R_alloc | apply Kd.R_drewN | apply Kd.R_drew)); exact HO341.out), (kbx BK307), (kbx BK308), (kbx BK309), (kbx BK319), (kbx BK320), (kbx BK321), (kbx BK326), (hbx HB)⟩)
            ·skip
             rintro v340 w68 ⟨hS_, h0_, h1_, h2_, h3_, h4_, h5_, h6_, h7_, h8_⟩
             have n0_ : Aside0 (Kd.R (Kd.int .i64) 3 w68 w.heap.size (fun _ => True) v340 y339) := ⟨h0_⟩
             have n1_ : Aside0 (w68.heap[gb307]? = some (.cells #[.int .i64 a0_0, .int .i64 a0_1, .int .i64 a0_2, .int .i64 a0_3] 23 (0, 0))) := ⟨h1_⟩
             have n2_ : Aside0 (w68.heap[gb308]? = some (.cells #[.int .i64 a1_0, .int .i64 a1_1, .int .i64 a1_2, .int .i64 a1_3] 23 (0, 0))) := ⟨h2_⟩
             have n3_ : Aside0 (w68.heap[gb309]? = some (.cells #[.int .i64 a2_0, .int .i64 a2_1, .int .i64 a2_2, .int .i64 a2_3] 23 (0, 0))) := ⟨h3_⟩
             have n4_ : Aside0 (w68.heap[gb319]? = some (.cells #[.int .i64 t310, .int .i64 t311, .int .i64 t312] 128 (0, 0))) := ⟨h4_⟩
             have n5_ : Aside0 (w68.heap[gb320]? = some (.cells #[.int .i64 t313, .int .i64 t314, .int .i64 t315] 128 (0, 0))) := ⟨h5_⟩
             have n6_ : Aside0 (w68.heap[gb321]? = some (.cells #[.int .i64 t316, .int .i64 t317, .int .i64 t318] 128 (0, 0))) := ⟨h6_⟩
             have n7_ : Aside0 (w68.heap[gb326]? = some (.cells #[.int .i64 t323, .int .i64 t324, .int .i64 t325] 128 (0, 0))) := ⟨h7_⟩
             have n8_ : Aside0 (Below w.heap.size w w68) := ⟨h8_⟩
             clear BK307
             clear BK308
             clear BK309
             clear BK319
             clear BK320
             clear BK321
             clear BK326
             clear HB
             clear h0_ h1_ h2_ h3_ h4_ h5_ h6_ h7_ h8_
             have HO341 := n0_
             have BK307 := n1_
             have BK308 := n2_
             have BK309 := n3_
             have BK319 := n4_
             have BK320 := n5_
             have BK321 := n6_
             have BK326 := n7_
             have HB := n8_
             clear n0_ n1_ n2_ n3_ n4_ n5_ n6_ n7_ n8_
             have hHeld : w68.cell? ⟨gb320, 0, none⟩ = some (.int .i64 t313) ∧ w68.cell? ⟨gb320, 1, none⟩ = some (.int .i64 t314) ∧ w68.cell? ⟨gb320, 2, none⟩ = some (.int .i64 t315) ∧ w68.cell? ⟨gb321, 0, none⟩ = some (.int .i64 t316) ∧ w68.cell? ⟨gb321, 1, none⟩ = some (.int .i64 t317) ∧ w68.cell? ⟨gb321, 2, none⟩ = some (.int .i64 t318) ∧ w68.cell? ⟨gb326, 0, none⟩ = some (.int .i64 t323) ∧ w68.cell? ⟨gb326, 1, none⟩ = some (.int .i64 t324) ∧ w68.cell? ⟨gb326, 2, none⟩ = some (.int .i64 t325) ∧ w68.cell? ⟨gb319, 0, none⟩ = some (.int .i64 t310) ∧ w68.cell? ⟨gb319, 1, none⟩ = some (.int .i64 t311) ∧ w68.cell? ⟨gb319, 2, none⟩ = some (.int .i64 t312) ∧ w68.cell? ⟨gb307, 0, none⟩ = some (.int .i64 a0_0) ∧ w68.cell? ⟨gb307, 1, none⟩ = some (.int .i64 a0_1) ∧ w68.cell? ⟨gb307, 2, none⟩ = some (.int .i64 a0_2) ∧ w68.cell? ⟨gb307, 3, none⟩ = some (.int .i64 a0_3) ∧ w68.cell? ⟨gb308, 0, none⟩ = some (.int .i64 a1_0) ∧ w68.cell? ⟨gb308, 1, none⟩ = some (.int .i64 a1_1) ∧ w68.cell? ⟨gb308, 2, none⟩ = some (.int .i64 a1_2) ∧ w68.cell? ⟨gb308, 3, none⟩ = some (.int .i64 a1_3) ∧ w68.cell? ⟨gb309, 0, none⟩ = some (.int .i64 a2_0) ∧ w68.cell? ⟨gb309, 1, none⟩ = some (.int .i64 a2_1) ∧ w68.cell? ⟨gb309, 2, none⟩ = some (.int .i64 a2_2) ∧ w68.cell? ⟨gb309, 3, none⟩ = some (.int .i64 a2_3) := hS_
             refine norm_ (a' := ?_) ?_ ?_
             rotate_left
             ·simp only [putAll, Act.put, List.setIfInBounds_toArray, List.set_cons_zero, List.set_cons_succ]
              rfl
             refine oS 4 29 2084223 (fun K hK => ?_)
             refine gO Try.func172 #[.agg #[.int .i64 t327, .int .i64 t328, .int .i64 t329], .agg #[.int .i64 t323, .int .i64 t324, .int .i64 t325]] ?_
             with_reducible refine (impl_dot.calls t327 t328 t329 t323 t324 t325 t330 _ A11.out).mono ?_
             rintro e w69 ⟨rfl, hb⟩
             refine ⟨_, rfl, ?_⟩
             have n0_ := Aside0.mk (Kd.R_below (by (with_reducible repeat (first | apply Kd.R_alloc | apply Kd.R_drewN | apply Kd.R_drew)); exact HO341.out) hb)
             have n1_ := kb BK307 hb
             have n2_ := kb BK308 hb
             have n3_ := kb BK309 hb
             have n4_ := kb BK319 hb
             have n5_ := kb BK320 hb
             have n6_ := kb BK321 hb
             have n7_ := kb BK326 hb
             have n8_ := bt HB hb
             clear HO341
             clear BK307
             clear BK308
             clear BK309
             clear BK319
             clear BK320
             clear BK321
             clear BK326
             clear HB
             have HO341 := n0_
             have BK307 := n1_
             have BK308 := n2_
             have BK309 := n3_
             have BK319 := n4_
             have BK320 := n5_
             have BK321 := n6_
             have BK326 := n7_
             have HB := n8_
             clear n0_ n1_ n2_ n3_ n4_ n5_ n6_ n7_ n8_
             (try clear hb)
             (try clear hb2)
             (try clear hk)
             (try clear hi)
             refine ko hK (fun hHeld => ?_)
             clear hK K
             refine nm 29 ?_
             exact norm_ (by first | (simp only [putAll, Act.put, List.setIfInBounds_toArray, List.set_cons_zero, List.set_cons_succ]; done) | (simp only [putAll, Act.put, List.setIfInBounds_toArray, List.set_cons_zero, List.set_cons_succ]; rfl)) (hJ2_4_20 (v340) _ ⟨hHeld, (by (with_reducible repeat (first | apply Kd.R_alloc | apply Kd.R_drewN | apply Kd.R_drew)); exact HO341.out), (kbx BK307), (kbx BK308), (kbx BK309), (kbx BK319), (kbx BK320), (kbx BK321), (kbx BK326), (hbx HB)⟩)
           ·skip
            rintro _ w67 ⟨hS_, h0_, h1_, h2_, h3_, h4_, h5_, h6_, h7_⟩
            have n0_ : Aside0 (w67.heap[gb307]? = some (.cells #[.int .i64 a0_0, .int .i64 a0_1, .int .i64 a0_2, .int .i64 a0_3] 23 (0, 0))) := ⟨h0_⟩
            have n1_ : Aside0 (w67.heap[gb308]? = some (.cells #[.int .i64 a1_0, .int .i64 a1_1, .int .i64 a1_2, .int .i64 a1_3] 23 (0, 0))) := ⟨h1_⟩
            have n2_ : Aside0 (w67.heap[gb309]? = some (.cells #[.int .i64 a2_0, .int .i64 a2_1, .int .i64 a2_2, .int .i64 a2_3] 23 (0, 0))) := ⟨h2_⟩
            have n3_ : Aside0 (w67.heap[gb319]? = some (.cells #[.int .i64 t310, .int .i64 t311, .int .i64 t312] 128 (0, 0))) := ⟨h3_⟩
            have n4_ : Aside0 (w67.heap[gb320]? = some (.cells #[.int .i64 t313, .int .i64 t314, .int .i64 t315] 128 (0, 0))) := ⟨h4_⟩
            have n5_ : Aside0 (w67.heap[gb321]? = some (.cells #[.int .i64 t316, .int .i64 t317, .int .i64 t318] 128 (0, 0))) := ⟨h5_⟩
            have n6_ : Aside0 (w67.heap[gb326]? = some (.cells #[.int .i64 t323, .int .i64 t324, .int .i64 t325] 128 (0, 0))) := ⟨h6_⟩
            have n7_ : Aside0 (Below w.heap.size w w67) := ⟨h7_⟩
            clear BK307
            clear BK308
            clear BK309
            clear BK319
            clear BK320
            clear BK321
            clear BK326
            clear HB
            clear h0_ h1_ h2_ h3_ h4_ h5_ h6_ h7_
            have BK307 := n0_
            have BK308 := n1_
            have BK309 := n2_
            have BK319 := n3_
            have BK320 := n4_
            have BK321 := n5_
            have BK326 := n6_
            have HB := n7_
            clear n0_ n1_ n2_ n3_ n4_ n5_ n6_ n7_
            have hHeld : w67.cell? ⟨gb320, 0, none⟩ = some (.int .i64 t313) ∧ w67.cell? ⟨gb320, 1, none⟩ = some (.int .i64 t314) ∧ w67.cell? ⟨gb320, 2, none⟩ = some (.int .i64 t315) ∧ w67.cell? ⟨gb321, 0, none⟩ = some (.int .i64 t316) ∧ w67.cell? ⟨gb321, 1, none⟩ = some (.int .i64 t317) ∧ w67.cell? ⟨gb321, 2, none⟩ = some (.int .i64 t318) ∧ w67.cell? ⟨gb326, 0, none⟩ = some (.int .i64 t323) ∧ w67.cell? ⟨gb326, 1, none⟩ = some (.int .i64 t324) ∧ w67.cell? ⟨gb326, 2, none⟩ = some (.int .i64 t325) ∧ w67.cell? ⟨gb319, 0, none⟩ = some (.int .i64 t310) ∧ w67.cell? ⟨gb319, 1, none⟩ = some (.int .i64 t311) ∧ w67.cell? ⟨gb319, 2, none⟩ = some (.int .i64 t312) ∧ w67.cell? ⟨gb307, 0, none⟩ = some (.int .i64 a0_0) ∧ w67.cell? ⟨gb307, 1, none⟩ = some (.int .i64 a0_1) ∧ w67.cell? ⟨gb307, 2, none⟩ = some (.int .i64 a0_2) ∧ w67.cell? ⟨gb307, 3, none⟩ = some (.int .i64 a0_3) ∧ w67.cell? ⟨gb308, 0, none⟩ = some (.int .i64 a1_0) ∧ w67.cell? ⟨gb308, 1, none⟩ = some (.int .i64 a1_1) ∧ w67.cell? ⟨gb308, 2, none⟩ = some (.int .i64 a1_2) ∧ w67.cell? ⟨gb308, 3, none⟩ = some (.int .i64 a1_3) ∧ w67.cell? ⟨gb309, 0, none⟩ = some (.int .i64 a2_0) ∧ w67.cell? ⟨gb309, 1, none⟩ = some (.int .i64 a2_1) ∧ w67.cell? ⟨gb309, 2, none⟩ = some (.int .i64 a2_2) ∧ w67.cell? ⟨gb309, 3, none⟩ = some (.int .i64 a2_3) := hS_
            refine norm_ (a' := ?_) ?_ ?_
            rotate_left
            ·simp only [putAll, Act.put, List.setIfInBounds_toArray, List.set_cons_zero, List.set_cons_succ]
             rfl
            refine two_ (i := 7) (j := 20) (Ni := some 32) (Nj := some 45) (bl 23 1035775) (bl 23 2084223) rfl rfl rfl rfl (two_of HT_.out (by kernel_rfl)) (by decide) (by decide) (fun K hK => ?_) (fun K hK => ?_)
            ·skip
             refine gO Try.func148 #[.agg #[.int .i64 t316, .int .i64 t317, .int .i64 t318], .agg #[.int .i64 t310, .int .i64 t311, .int .i64 t312]] ?_
             with_reducible refine (impl_crossOf.calls t316 t317 t318 t310 t311 t312 t331 t332 t333 _ A12.out).mono ?_
             rintro e w68 ⟨rfl, hb⟩
             refine ⟨_, rfl, ?_⟩
             have n0_ := kb BK307 hb
             have n1_ := kb BK308 hb
             have n2_ := kb BK309 hb
             have n3_ := kb BK319 hb
             have n4_ := kb BK320 hb
             have n5_ := kb BK321 hb
             have n6_ := kb BK326 hb
             have n7_ := bt HB hb
             clear BK307
             clear BK308
             clear BK309
             clear BK319
             clear BK320
             clear BK321
             clear BK326
             clear HB
             have BK307 := n0_
             have BK308 := n1_
             have BK309 := n2_
             have BK319 := n3_
             have BK320 := n4_
             have BK321 := n5_
             have BK326 := n6_
             have HB := n7_
             clear n0_ n1_ n2_ n3_ n4_ n5_ n6_ n7_
             (try clear hb)
             (try clear hb2)
             (try clear hk)
             (try clear hi)
             refine ko hK (fun hHeld => ?_)
             clear hK K
             refine nm 32 ?_
             exact norm_ (by first | (simp only [putAll, Act.put, List.setIfInBounds_toArray, List.set_cons_zero, List.set_cons_succ]; done) | (simp only [putAll, Act.put, List.setIfInBounds_toArray, List.set_cons_zero, List.set_cons_succ]; rfl)) (hJ2_4_7 () _ ⟨hHeld, (kbx BK307), (kbx BK308), (kbx BK309), (kbx BK319), (kbx BK320), (kbx BK321), (kbx BK326), (hbx HB)⟩)
            ·skip
             refine Kd.R_lit_step (Kd.int .i64) _ 3 ?hg (N := 45) ?hd (xs := ([a0_3, a1_3, a2_3] : List Int)) (inner := [.int .i64 a0_3, .int .i64 a1_3, .int .i64 a2_3]) (ok := fun _ => True) (okp := fun _ => True) ?hr ?hp (fun _ hk => hk) trivial (Below.refl _ _) (Nat.le_refl _) (by simp) ?_; (case hd => rfl); (case hg => rfl); (case hr => first | (go_simp; done) | (go_simp; rfl)); (case hp => exact (Reps.one (show Kd.M (Kd.int .i64) _ _ _ a0_3 [.int .i64 a0_3] from rfl) (Reps.one (show Kd.M (Kd.int .i64) _ _ _ a1_3 [.int .i64 a1_3] from rfl) (Reps.one (show Kd.M (Kd.int .i64) _ _ _ a2_3 [.int .i64 a2_3] from rfl) (Reps.none _ _)))))
             intro v340 w68 ho69 hb hg_ hnew_
             clear hg_ hnew_
             (first | rw [← Ny339.out] at ho69 | (simp only [Int.reduceToNat] at ho69; rw [← Ny339.out] at ho69))
             have n0_ := Aside0.mk (Kd.R_lower ho69 (below_size (hbx HB)))
             have n1_ := kb BK307 hb
             have n2_ := kb BK308 hb
             have n3_ := kb BK309 hb
             have n4_ := kb BK319 hb
             have n5_ := kb BK320 hb
             have n6_ := kb BK321 hb
             have n7_ := kb BK326 hb
             have n8_ := bt HB hb
             clear BK307
             clear BK308
             clear BK309
             clear BK319
             clear BK320
             clear BK321
             clear BK326
             clear HB
             have HO341 := n0_
             have BK307 := n1_
             have BK308 := n2_
             have BK309 := n3_
             have BK319 := n4_
             have BK320 := n5_
             have BK321 := n6_
             have BK326 := n7_
             have HB := n8_
             clear n0_ n1_ n2_ n3_ n4_ n5_ n6_ n7_ n8_
             clear hb ho69
             refine ko hK (fun hHeld => ?_)
             clear hK K
             refine nm 45 ?_
             exact norm_ (by first | (simp only [putAll, Act.put, List.setIfInBounds_toArray, List.set_cons_zero, List.set_cons_succ]; done) | (simp only [putAll, Act.put, List.setIfInBounds_toArray, List.set_cons_zero, List.set_cons_succ]; rfl)) (hJ2_4_20 (v340) _ ⟨hHeld, (by (with_reducible repeat (first | apply Kd.R_alloc | apply Kd.R_drewN | apply Kd.R_drew)); exact HO341.out), (kbx BK307), (kbx BK308), (kbx BK309), (kbx BK319), (kbx BK320), (kbx BK321), (kbx BK326), (hbx HB)⟩)
          ·skip
           rintro v340 w69 ⟨hS_, h0_, h1_, h2_, h3_, h4_, h5_, h6_, h7_, h8_⟩
           have n0_ : Aside0 (Kd.R (Kd.int .i64) 3 w69 w.heap.size (fun _ => True) v340 y339) := ⟨h0_⟩
           have n1_ : Aside0 (w69.heap[gb307]? = some (.cells #[.int .i64 a0_0, .int .i64 a0_1, .int .i64 a0_2, .int .i64 a0_3] 23 (0, 0))) := ⟨h1_⟩
           have n2_ : Aside0 (w69.heap[gb308]? = some (.cells #[.int .i64 a1_0, .int .i64 a1_1, .int .i64 a1_2, .int .i64 a1_3] 23 (0, 0))) := ⟨h2_⟩
           have n3_ : Aside0 (w69.heap[gb309]? = some (.cells #[.int .i64 a2_0, .int .i64 a2_1, .int .i64 a2_2, .int .i64 a2_3] 23 (0, 0))) := ⟨h3_⟩
           have n4_ : Aside0 (w69.heap[gb319]? = some (.cells #[.int .i64 t310, .int .i64 t311, .int .i64 t312] 128 (0, 0))) := ⟨h4_⟩
           have n5_ : Aside0 (w69.heap[gb320]? = some (.cells #[.int .i64 t313, .int .i64 t314, .int .i64 t315] 128 (0, 0))) := ⟨h5_⟩
           have n6_ : Aside0 (w69.heap[gb321]? = some (.cells #[.int .i64 t316, .int .i64 t317, .int .i64 t318] 128 (0, 0))) := ⟨h6_⟩
           have n7_ : Aside0 (w69.heap[gb326]? = some (.cells #[.int .i64 t323, .int .i64 t324, .int .i64 t325] 128 (0, 0))) := ⟨h7_⟩
           have n8_ : Aside0 (Below w.heap.size w w69) := ⟨h8_⟩
           clear BK307
           clear BK308
           clear BK309
           clear BK319
           clear BK320
           clear BK321
           clear BK326
           clear HB
           clear h0_ h1_ h2_ h3_ h4_ h5_ h6_ h7_ h8_
           have HO341 := n0_
           have BK307 := n1_
           have BK308 := n2_
           have BK309 := n3_
           have BK319 := n4_
           have BK320 := n5_
           have BK321 := n6_
           have BK326 := n7_
           have HB := n8_
           clear n0_ n1_ n2_ n3_ n4_ n5_ n6_ n7_ n8_
           have hHeld : w69.cell? ⟨gb320, 0, none⟩ = some (.int .i64 t313) ∧ w69.cell? ⟨gb320, 1, none⟩ = some (.int .i64 t314) ∧ w69.cell? ⟨gb320, 2, none⟩ = some (.int .i64 t315) ∧ w69.cell? ⟨gb321, 0, none⟩ = some (.int .i64 t316) ∧ w69.cell? ⟨gb321, 1, none⟩ = some (.int .i64 t317) ∧ w69.cell? ⟨gb321, 2, none⟩ = some (.int .i64 t318) ∧ w69.cell? ⟨gb326, 0, none⟩ = some (.int .i64 t323) ∧ w69.cell? ⟨gb326, 1, none⟩ = some (.int .i64 t324) ∧ w69.cell? ⟨gb326, 2, none⟩ = some (.int .i64 t325) ∧ w69.cell? ⟨gb319, 0, none⟩ = some (.int .i64 t310) ∧ w69.cell? ⟨gb319, 1, none⟩ = some (.int .i64 t311) ∧ w69.cell? ⟨gb319, 2, none⟩ = some (.int .i64 t312) ∧ w69.cell? ⟨gb307, 0, none⟩ = some (.int .i64 a0_0) ∧ w69.cell? ⟨gb307, 1, none⟩ = some (.int .i64 a0_1) ∧ w69.cell? ⟨gb307, 2, none⟩ = some (.int .i64 a0_2) ∧ w69.cell? ⟨gb307, 3, none⟩ = some (.int .i64 a0_3) ∧ w69.cell? ⟨gb308, 0, none⟩ = some (.int .i64 a1_0) ∧ w69.cell? ⟨gb308, 1, none⟩ = some (.int .i64 a1_1) ∧ w69.cell? ⟨gb308, 2, none⟩ = some (.int .i64 a1_2) ∧ w69.cell? ⟨gb308, 3, none⟩ = some (.int .i64 a1_3) ∧ w69.cell? ⟨gb309, 0, none⟩ = some (.int .i64 a2_0) ∧ w69.cell? ⟨gb309, 1, none⟩ = some (.int .i64 a2_1) ∧ w69.cell? ⟨gb309, 2, none⟩ = some (.int .i64 a2_2) ∧ w69.cell? ⟨gb309, 3, none⟩ = some (.int .i64 a2_3) := hS_
           refine norm_ (a' := ?_) ?_ ?_
           rotate_left
           ·simp only [putAll, Act.put, List.setIfInBounds_toArray, List.set_cons_zero, List.set_cons_succ]
            rfl
           refine oS 7 32 2084351 (fun K hK => ?_)
           refine gO Try.func148 #[.agg #[.int .i64 t316, .int .i64 t317, .int .i64 t318], .agg #[.int .i64 t310, .int .i64 t311, .int .i64 t312]] ?_
           with_reducible refine (impl_crossOf.calls t316 t317 t318 t310 t311 t312 t331 t332 t333 _ A12.out).mono ?_
           rintro e w70 ⟨rfl, hb⟩
           refine ⟨_, rfl, ?_⟩
           have n0_ := Aside0.mk (Kd.R_below (by (with_reducible repeat (first | apply Kd.R_alloc | apply Kd.R_drewN | apply Kd.R_drew)); exact HO341.out) hb)
           have n1_ := kb BK307 hb
           have n2_ := kb BK308 hb
           have n3_ := kb BK309 hb
           have n4_ := kb BK319 hb
           have n5_ := kb BK320 hb
           have n6_ := kb BK321 hb
           have n7_ := kb BK326 hb
           have n8_ := bt HB hb
           clear HO341
           clear BK307
           clear BK308
           clear BK309
           clear BK319
           clear BK320
           clear BK321
           clear BK326
           clear HB
           have HO341 := n0_
           have BK307 := n1_
           have BK308 := n2_
           have BK309 := n3_
           have BK319 := n4_
           have BK320 := n5_
           have BK321 := n6_
           have BK326 := n7_
           have HB := n8_
           clear n0_ n1_ n2_ n3_ n4_ n5_ n6_ n7_ n8_
           (try clear hb)
           (try clear hb2)
           (try clear hk)
           (try clear hi)
           refine ko hK (fun hHeld => ?_)
           clear hK K
           refine nm 32 ?_
           exact norm_ (by first | (simp only [putAll, Act.put, List.setIfInBounds_toArray, List.set_cons_zero, List.set_cons_succ]; done) | (simp only [putAll, Act.put, List.setIfInBounds_toArray, List.set_cons_zero, List.set_cons_succ]; rfl)) (hJ2_4_7_20 (v340) _ ⟨hHeld, (by (with_reducible repeat (first | apply Kd.R_alloc | apply Kd.R_drewN | apply Kd.R_drew)); exact HO341.out), (kbx BK307), (kbx BK308), (kbx BK309), (kbx BK319), (kbx BK320), (kbx BK321), (kbx BK326), (hbx HB)⟩)
         ·skip
          rintro _ w68 ⟨hS_, h0_, h1_, h2_, h3_, h4_, h5_, h6_, h7_⟩
          have n0_ : Aside0 (w68.heap[gb307]? = some (.cells #[.int .i64 a0_0, .int .i64 a0_1, .int .i64 a0_2, .int .i64 a0_3] 23 (0, 0))) := ⟨h0_⟩
          have n1_ : Aside0 (w68.heap[gb308]? = some (.cells #[.int .i64 a1_0, .int .i64 a1_1, .int .i64 a1_2, .int .i64 a1_3] 23 (0, 0))) := ⟨h1_⟩
          have n2_ : Aside0 (w68.heap[gb309]? = some (.cells #[.int .i64 a2_0, .int .i64 a2_1, .int .i64 a2_2, .int .i64 a2_3] 23 (0, 0))) := ⟨h2_⟩
          have n3_ : Aside0 (w68.heap[gb319]? = some (.cells #[.int .i64 t310, .int .i64 t311, .int .i64 t312] 128 (0, 0))) := ⟨h3_⟩
          have n4_ : Aside0 (w68.heap[gb320]? = some (.cells #[.int .i64 t313, .int .i64 t314, .int .i64 t315] 128 (0, 0))) := ⟨h4_⟩
          have n5_ : Aside0 (w68.heap[gb321]? = some (.cells #[.int .i64 t316, .int .i64 t317, .int .i64 t318] 128 (0, 0))) := ⟨h5_⟩
          have n6_ : Aside0 (w68.heap[gb326]? = some (.cells #[.int .i64 t323, .int .i64 t324, .int .i64 t325] 128 (0, 0))) := ⟨h6_⟩
          have n7_ : Aside0 (Below w.heap.size w w68) := ⟨h7_⟩
          clear BK307
          clear BK308
          clear BK309
          clear BK319
          clear BK320
          clear BK321
          clear BK326
          clear HB
          clear h0_ h1_ h2_ h3_ h4_ h5_ h6_ h7_
          have BK307 := n0_
          have BK308 := n1_
          have BK309 := n2_
          have BK319 := n3_
          have BK320 := n4_
          have BK321 := n5_
          have BK326 := n6_
          have HB := n7_
          clear n0_ n1_ n2_ n3_ n4_ n5_ n6_ n7_
          have hHeld : w68.cell? ⟨gb320, 0, none⟩ = some (.int .i64 t313) ∧ w68.cell? ⟨gb320, 1, none⟩ = some (.int .i64 t314) ∧ w68.cell? ⟨gb320, 2, none⟩ = some (.int .i64 t315) ∧ w68.cell? ⟨gb321, 0, none⟩ = some (.int .i64 t316) ∧ w68.cell? ⟨gb321, 1, none⟩ = some (.int .i64 t317) ∧ w68.cell? ⟨gb321, 2, none⟩ = some (.int .i64 t318) ∧ w68.cell? ⟨gb326, 0, none⟩ = some (.int .i64 t323) ∧ w68.cell? ⟨gb326, 1, none⟩ = some (.int .i64 t324) ∧ w68.cell? ⟨gb326, 2, none⟩ = some (.int .i64 t325) ∧ w68.cell? ⟨gb319, 0, none⟩ = some (.int .i64 t310) ∧ w68.cell? ⟨gb319, 1, none⟩ = some (.int .i64 t311) ∧ w68.cell? ⟨gb319, 2, none⟩ = some (.int .i64 t312) ∧ w68.cell? ⟨gb307, 0, none⟩ = some (.int .i64 a0_0) ∧ w68.cell? ⟨gb307, 1, none⟩ = some (.int .i64 a0_1) ∧ w68.cell? ⟨gb307, 2, none⟩ = some (.int .i64 a0_2) ∧ w68.cell? ⟨gb307, 3, none⟩ = some (.int .i64 a0_3) ∧ w68.cell? ⟨gb308, 0, none⟩ = some (.int .i64 a1_0) ∧ w68.cell? ⟨gb308, 1, none⟩ = some (.int .i64 a1_1) ∧ w68.cell? ⟨gb308, 2, none⟩ = some (.int .i64 a1_2) ∧ w68.cell? ⟨gb308, 3, none⟩ = some (.int .i64 a1_3) ∧ w68.cell? ⟨gb309, 0, none⟩ = some (.int .i64 a2_0) ∧ w68.cell? ⟨gb309, 1, none⟩ = some (.int .i64 a2_1) ∧ w68.cell? ⟨gb309, 2, none⟩ = some (.int .i64 a2_2) ∧ w68.cell? ⟨gb309, 3, none⟩ = some (.int .i64 a2_3) := hS_
          refine norm_ (a' := ?_) ?_ ?_
          rotate_left
          ·simp only [putAll, Act.put, List.setIfInBounds_toArray, List.set_cons_zero, List.set_cons_succ]
           rfl
          refine two_ (i := 9) (j := 20) (Ni := some 34) (Nj := some 45) (bl 23 1036287) (bl 23 2084351) rfl rfl rfl rfl (two_of HT_.out (by kernel_rfl)) (by decide) (by decide) (fun K hK => ?_) (fun K hK => ?_)
          ·skip
           refine gO Try.func172 #[.agg #[.int .i64 t331, .int .i64 t332, .int .i64 t333], .agg #[.int .i64 t323, .int .i64 t324, .int .i64 t325]] ?_
           with_reducible refine (impl_dot.calls t331 t332 t333 t323 t324 t325 t334 _ A13.out).mono ?_
           rintro e w69 ⟨rfl, hb⟩
           refine ⟨_, rfl, ?_⟩
           have n0_ := kb BK307 hb
           have n1_ := kb BK308 hb
           have n2_ := kb BK309 hb
           have n3_ := kb BK319 hb
           have n4_ := kb BK320 hb
           have n5_ := kb BK321 hb
           have n6_ := kb BK326 hb
           have n7_ := bt HB hb
           clear BK307
           clear BK308
           clear BK309
           clear BK319
           clear BK320
           clear BK321
           clear BK326
           clear HB
           have BK307 := n0_
           have BK308 := n1_
           have BK309 := n2_
           have BK319 := n3_
           have BK320 := n4_
           have BK321 := n5_
           have BK326 := n6_
           have HB := n7_
           clear n0_ n1_ n2_ n3_ n4_ n5_ n6_ n7_
           (try clear hb)
           (try clear hb2)
           (try clear hk)
           (try clear hi)
           refine ko hK (fun hHeld => ?_)
           clear hK K
           refine nm 34 ?_
           exact norm_ (by first | (simp only [putAll, Act.put, List.setIfInBounds_toArray, List.set_cons_zero, List.set_cons_succ]; done) | (simp only [putAll, Act.put, List.setIfInBounds_toArray, List.set_cons_zero, List.set_cons_succ]; rfl)) (hJ2_4_7_9 () _ ⟨hHeld, (kbx BK307), (kbx BK308), (kbx BK309), (kbx BK319), (kbx BK320), (kbx BK321), (kbx BK326), (hbx HB)⟩)
          ·skip
           refine Kd.R_lit_step (Kd.int .i64) _ 3 ?hg (N := 45) ?hd (xs := ([a0_3, a1_3, a2_3] : List Int)) (inner := [.int .i64 a0_3, .int .i64 a1_3, .int .i64 a2_3]) (ok := fun _ => True) (okp := fun _ => True) ?hr ?hp (fun _ hk => hk) trivial (Below.refl _ _) (Nat.le_refl _) (by simp) ?_; (case hd => rfl); (case hg => rfl); (case hr => first | (go_simp; done) | (go_simp; rfl)); (case hp => exact (Reps.one (show Kd.M (Kd.int .i64) _ _ _ a0_3 [.int .i64 a0_3] from rfl) (Reps.one (show Kd.M (Kd.int .i64) _ _ _ a1_3 [.int .i64 a1_3] from rfl) (Reps.one (show Kd.M (Kd.int .i64) _ _ _ a2_3 [.int .i64 a2_3] from rfl) (Reps.none _ _)))))
           intro v340 w69 ho70 hb hg_ hnew_
           clear hg_ hnew_
           (first | rw [← Ny339.out] at ho70 | (simp only [Int.reduceToNat] at ho70; rw [← Ny339.out] at ho70))
           have n0_ := Aside0.mk (Kd.R_lower ho70 (below_size (hbx HB)))
           have n1_ := kb BK307 hb
           have n2_ := kb BK308 hb
           have n3_ := kb BK309 hb
           have n4_ := kb BK319 hb
           have n5_ := kb BK320 hb
           have n6_ := kb BK321 hb
           have n7_ := kb BK326 hb
           have n8_ := bt HB hb
           clear BK307
           clear BK308
           clear BK309
           clear BK319
           clear BK320
           clear BK321
           clear BK326
           clear HB
           have HO341 := n0_
           have BK307 := n1_
           have BK308 := n2_
           have BK309 := n3_
           have BK319 := n4_
           have BK320 := n5_
           have BK321 := n6_
           have BK326 := n7_
           have HB := n8_
           clear n0_ n1_ n2_ n3_ n4_ n5_ n6_ n7_ n8_
           clear hb ho70
           refine ko hK (fun hHeld => ?_)
           clear hK K
           refine nm 45 ?_
           exact norm_ (by first | (simp only [putAll, Act.put, List.setIfInBounds_toArray, List.set_cons_zero, List.set_cons_succ]; done) | (simp only [putAll, Act.put, List.setIfInBounds_toArray, List.set_cons_zero, List.set_cons_succ]; rfl)) (hJ2_4_7_20 (v340) _ ⟨hHeld, (by (with_reducible repeat (first | apply Kd.R_alloc | apply Kd.R_drewN | apply Kd.R_drew)); exact HO341.out), (kbx BK307), (kbx BK308), (kbx BK309), (kbx BK319), (kbx BK320), (kbx BK321), (kbx BK326), (hbx HB)⟩)
        ·skip
         rintro v340 w70 ⟨hS_, h0_, h1_, h2_, h3_, h4_, h5_, h6_, h7_, h8_⟩
         have n0_ : Aside0 (Kd.R (Kd.int .i64) 3 w70 w.heap.size (fun _ => True) v340 y339) := ⟨h0_⟩
         have n1_ : Aside0 (w70.heap[gb307]? = some (.cells #[.int .i64 a0_0, .int .i64 a0_1, .int .i64 a0_2, .int .i64 a0_3] 23 (0, 0))) := ⟨h1_⟩
         have n2_ : Aside0 (w70.heap[gb308]? = some (.cells #[.int .i64 a1_0, .int .i64 a1_1, .int .i64 a1_2, .int .i64 a1_3] 23 (0, 0))) := ⟨h2_⟩
         have n3_ : Aside0 (w70.heap[gb309]? = some (.cells #[.int .i64 a2_0, .int .i64 a2_1, .int .i64 a2_2, .int .i64 a2_3] 23 (0, 0))) := ⟨h3_⟩
         have n4_ : Aside0 (w70.heap[gb319]? = some (.cells #[.int .i64 t310, .int .i64 t311, .int .i64 t312] 128 (0, 0))) := ⟨h4_⟩
         have n5_ : Aside0 (w70.heap[gb320]? = some (.cells #[.int .i64 t313, .int .i64 t314, .int .i64 t315] 128 (0, 0))) := ⟨h5_⟩
         have n6_ : Aside0 (w70.heap[gb321]? = some (.cells #[.int .i64 t316, .int .i64 t317, .int .i64 t318] 128 (0, 0))) := ⟨h6_⟩
         have n7_ : Aside0 (w70.heap[gb326]? = some (.cells #[.int .i64 t323, .int .i64 t324, .int .i64 t325] 128 (0, 0))) := ⟨h7_⟩
         have n8_ : Aside0 (Below w.heap.size w w70) := ⟨h8_⟩
         clear BK307
         clear BK308
         clear BK309
         clear BK319
         clear BK320
         clear BK321
         clear BK326
         clear HB
         clear h0_ h1_ h2_ h3_ h4_ h5_ h6_ h7_ h8_
         have HO341 := n0_
         have BK307 := n1_
         have BK308 := n2_
         have BK309 := n3_
         have BK319 := n4_
         have BK320 := n5_
         have BK321 := n6_
         have BK326 := n7_
         have HB := n8_
         clear n0_ n1_ n2_ n3_ n4_ n5_ n6_ n7_ n8_
         have hHeld : w70.cell? ⟨gb320, 0, none⟩ = some (.int .i64 t313) ∧ w70.cell? ⟨gb320, 1, none⟩ = some (.int .i64 t314) ∧ w70.cell? ⟨gb320, 2, none⟩ = some (.int .i64 t315) ∧ w70.cell? ⟨gb321, 0, none⟩ = some (.int .i64 t316) ∧ w70.cell? ⟨gb321, 1, none⟩ = some (.int .i64 t317) ∧ w70.cell? ⟨gb321, 2, none⟩ = some (.int .i64 t318) ∧ w70.cell? ⟨gb326, 0, none⟩ = some (.int .i64 t323) ∧ w70.cell? ⟨gb326, 1, none⟩ = some (.int .i64 t324) ∧ w70.cell? ⟨gb326, 2, none⟩ = some (.int .i64 t325) ∧ w70.cell? ⟨gb319, 0, none⟩ = some (.int .i64 t310) ∧ w70.cell? ⟨gb319, 1, none⟩ = some (.int .i64 t311) ∧ w70.cell? ⟨gb319, 2, none⟩ = some (.int .i64 t312) ∧ w70.cell? ⟨gb307, 0, none⟩ = some (.int .i64 a0_0) ∧ w70.cell? ⟨gb307, 1, none⟩ = some (.int .i64 a0_1) ∧ w70.cell? ⟨gb307, 2, none⟩ = some (.int .i64 a0_2) ∧ w70.cell? ⟨gb307, 3, none⟩ = some (.int .i64 a0_3) ∧ w70.cell? ⟨gb308, 0, none⟩ = some (.int .i64 a1_0) ∧ w70.cell? ⟨gb308, 1, none⟩ = some (.int .i64 a1_1) ∧ w70.cell? ⟨gb308, 2, none⟩ = some (.int .i64 a1_2) ∧ w70.cell? ⟨gb308, 3, none⟩ = some (.int .i64 a1_3) ∧ w70.cell? ⟨gb309, 0, none⟩ = some (.int .i64 a2_0) ∧ w70.cell? ⟨gb309, 1, none⟩ = some (.int .i64 a2_1) ∧ w70.cell? ⟨gb309, 2, none⟩ = some (.int .i64 a2_2) ∧ w70.cell? ⟨gb309, 3, none⟩ = some (.int .i64 a2_3) := hS_
         refine norm_ (a' := ?_) ?_ ?_
         rotate_left
         ·simp only [putAll, Act.put, List.setIfInBounds_toArray, List.set_cons_zero, List.set_cons_succ]
          rfl
         refine oS 9 34 2084863 (fun K hK => ?_)
         refine gO Try.func172 #[.agg #[.int .i64 t331, .int .i64 t332, .int .i64 t333], .agg #[.int .i64 t323, .int .i64 t324, .int .i64 t325]] ?_
         with_reducible refine (impl_dot.calls t331 t332 t333 t323 t324 t325 t334 _ A13.out).mono ?_
         rintro e w71 ⟨rfl, hb⟩
         refine ⟨_, rfl, ?_⟩
         have n0_ := Aside0.mk (Kd.R_below (by (with_reducible repeat (first | apply Kd.R_alloc | apply Kd.R_drewN | apply Kd.R_drew)); exact HO341.out) hb)
         have n1_ := kb BK307 hb
         have n2_ := kb BK308 hb
         have n3_ := kb BK309 hb
         have n4_ := kb BK319 hb
         have n5_ := kb BK320 hb
         have n6_ := kb BK321 hb
         have n7_ := kb BK326 hb
         have n8_ := bt HB hb
         clear HO341
         clear BK307
         clear BK308
         clear BK309
         clear BK319
         clear BK320
         clear BK321
         clear BK326
         clear HB
         have HO341 := n0_
         have BK307 := n1_
         have BK308 := n2_
         have BK309 := n3_
         have BK319 := n4_
         have BK320 := n5_
         have BK321 := n6_
         have BK326 := n7_
         have HB := n8_
         clear n0_ n1_ n2_ n3_ n4_ n5_ n6_ n7_ n8_
         (try clear hb)
         (try clear hb2)
         (try clear hk)
         (try clear hi)
         refine ko hK (fun hHeld => ?_)
         clear hK K
         refine nm 34 ?_
         exact norm_ (by first | (simp only [putAll, Act.put, List.setIfInBounds_toArray, List.set_cons_zero, List.set_cons_succ]; done) | (simp only [putAll, Act.put, List.setIfInBounds_toArray, List.set_cons_zero, List.set_cons_succ]; rfl)) (hJ2_4_7_9_20 (v340) _ ⟨hHeld, (by (with_reducible repeat (first | apply Kd.R_alloc | apply Kd.R_drewN | apply Kd.R_drew)); exact HO341.out), (kbx BK307), (kbx BK308), (kbx BK309), (kbx BK319), (kbx BK320), (kbx BK321), (kbx BK326), (hbx HB)⟩)
       ·skip
        rintro _ w69 ⟨hS_, h0_, h1_, h2_, h3_, h4_, h5_, h6_, h7_⟩
        have n0_ : Aside0 (w69.heap[gb307]? = some (.cells #[.int .i64 a0_0, .int .i64 a0_1, .int .i64 a0_2, .int .i64 a0_3] 23 (0, 0))) := ⟨h0_⟩
        have n1_ : Aside0 (w69.heap[gb308]? = some (.cells #[.int .i64 a1_0, .int .i64 a1_1, .int .i64 a1_2, .int .i64 a1_3] 23 (0, 0))) := ⟨h1_⟩
        have n2_ : Aside0 (w69.heap[gb309]? = some (.cells #[.int .i64 a2_0, .int .i64 a2_1, .int .i64 a2_2, .int .i64 a2_3] 23 (0, 0))) := ⟨h2_⟩
        have n3_ : Aside0 (w69.heap[gb319]? = some (.cells #[.int .i64 t310, .int .i64 t311, .int .i64 t312] 128 (0, 0))) := ⟨h3_⟩
        have n4_ : Aside0 (w69.heap[gb320]? = some (.cells #[.int .i64 t313, .int .i64 t314, .int .i64 t315] 128 (0, 0))) := ⟨h4_⟩
        have n5_ : Aside0 (w69.heap[gb321]? = some (.cells #[.int .i64 t316, .int .i64 t317, .int .i64 t318] 128 (0, 0))) := ⟨h5_⟩
        have n6_ : Aside0 (w69.heap[gb326]? = some (.cells #[.int .i64 t323, .int .i64 t324, .int .i64 t325] 128 (0, 0))) := ⟨h6_⟩
        have n7_ : Aside0 (Below w.heap.size w w69) := ⟨h7_⟩
        clear BK307
        clear BK308
        clear BK309
        clear BK319
        clear BK320
        clear BK321
        clear BK326
        clear HB
        clear h0_ h1_ h2_ h3_ h4_ h5_ h6_ h7_
        have BK307 := n0_
        have BK308 := n1_
        have BK309 := n2_
        have BK319 := n3_
        have BK320 := n4_
        have BK321 := n5_
        have BK326 := n6_
        have HB := n7_
        clear n0_ n1_ n2_ n3_ n4_ n5_ n6_ n7_
        have hHeld : w69.cell? ⟨gb320, 0, none⟩ = some (.int .i64 t313) ∧ w69.cell? ⟨gb320, 1, none⟩ = some (.int .i64 t314) ∧ w69.cell? ⟨gb320, 2, none⟩ = some (.int .i64 t315) ∧ w69.cell? ⟨gb321, 0, none⟩ = some (.int .i64 t316) ∧ w69.cell? ⟨gb321, 1, none⟩ = some (.int .i64 t317) ∧ w69.cell? ⟨gb321, 2, none⟩ = some (.int .i64 t318) ∧ w69.cell? ⟨gb326, 0, none⟩ = some (.int .i64 t323) ∧ w69.cell? ⟨gb326, 1, none⟩ = some (.int .i64 t324) ∧ w69.cell? ⟨gb326, 2, none⟩ = some (.int .i64 t325) ∧ w69.cell? ⟨gb319, 0, none⟩ = some (.int .i64 t310) ∧ w69.cell? ⟨gb319, 1, none⟩ = some (.int .i64 t311) ∧ w69.cell? ⟨gb319, 2, none⟩ = some (.int .i64 t312) ∧ w69.cell? ⟨gb307, 0, none⟩ = some (.int .i64 a0_0) ∧ w69.cell? ⟨gb307, 1, none⟩ = some (.int .i64 a0_1) ∧ w69.cell? ⟨gb307, 2, none⟩ = some (.int .i64 a0_2) ∧ w69.cell? ⟨gb307, 3, none⟩ = some (.int .i64 a0_3) ∧ w69.cell? ⟨gb308, 0, none⟩ = some (.int .i64 a1_0) ∧ w69.cell? ⟨gb308, 1, none⟩ = some (.int .i64 a1_1) ∧ w69.cell? ⟨gb308, 2, none⟩ = some (.int .i64 a1_2) ∧ w69.cell? ⟨gb308, 3, none⟩ = some (.int .i64 a1_3) ∧ w69.cell? ⟨gb309, 0, none⟩ = some (.int .i64 a2_0) ∧ w69.cell? ⟨gb309, 1, none⟩ = some (.int .i64 a2_1) ∧ w69.cell? ⟨gb309, 2, none⟩ = some (.int .i64 a2_2) ∧ w69.cell? ⟨gb309, 3, none⟩ = some (.int .i64 a2_3) := hS_
        refine norm_ (a' := ?_) ?_ ?_
        rotate_left
        ·simp only [putAll, Act.put, List.setIfInBounds_toArray, List.set_cons_zero, List.set_cons_succ]
         rfl
        refine two_ (i := 12) (j := 20) (Ni := some 37) (Nj := some 45) (bl 23 1040383) (bl 23 2084863) rfl rfl rfl rfl (two_of HT_.out (by kernel_rfl)) (by decide) (by decide) (fun K hK => ?_) (fun K hK => ?_)
        ·skip
         refine gO Try.func172 #[.agg #[.int .i64 t323, .int .i64 t324, .int .i64 t325], .agg #[.int .i64 t323, .int .i64 t324, .int .i64 t325]] ?_
         with_reducible refine (impl_dot.calls t323 t324 t325 t323 t324 t325 t335 _ A14.out).mono ?_
         rintro e w70 ⟨rfl, hb⟩
         refine ⟨_, rfl, ?_⟩
         have n0_ := kb BK307 hb
         have n1_ := kb BK308 hb
         have n2_ := kb BK309 hb
         have n3_ := kb BK319 hb
         have n4_ := kb BK320 hb
         have n5_ := kb BK321 hb
         have n6_ := kb BK326 hb
         have n7_ := bt HB hb
         clear BK307
         clear BK308
         clear BK309
         clear BK319
         clear BK320
         clear BK321
         clear BK326
         clear HB
         have BK307 := n0_
         have BK308 := n1_
         have BK309 := n2_
         have BK319 := n3_
         have BK320 := n4_
         have BK321 := n5_
         have BK326 := n6_
         have HB := n7_
         clear n0_ n1_ n2_ n3_ n4_ n5_ n6_ n7_
         (try clear hb)
         (try clear hb2)
         (try clear hk)
         (try clear hi)
         refine ko hK (fun hHeld => ?_)
         clear hK K
         refine nm 37 ?_
         exact norm_ (by first | (simp only [putAll, Act.put, List.setIfInBounds_toArray, List.set_cons_zero, List.set_cons_succ]; done) | (simp only [putAll, Act.put, List.setIfInBounds_toArray, List.set_cons_zero, List.set_cons_succ]; rfl)) (hJ2_4_7_9_12 () _ ⟨hHeld, (kbx BK307), (kbx BK308), (kbx BK309), (kbx BK319), (kbx BK320), (kbx BK321), (kbx BK326), (hbx HB)⟩)
        ·skip
         refine Kd.R_lit_step (Kd.int .i64) _ 3 ?hg (N := 45) ?hd (xs := ([a0_3, a1_3, a2_3] : List Int)) (inner := [.int .i64 a0_3, .int .i64 a1_3, .int .i64 a2_3]) (ok := fun _ => True) (okp := fun _ => True) ?hr ?hp (fun _ hk => hk) trivial (Below.refl _ _) (Nat.le_refl _) (by simp) ?_; (case hd => rfl); (case hg => rfl); (case hr => first | (go_simp; done) | (go_simp; rfl)); (case hp => exact (Reps.one (show Kd.M (Kd.int .i64) _ _ _ a0_3 [.int .i64 a0_3] from rfl) (Reps.one (show Kd.M (Kd.int .i64) _ _ _ a1_3 [.int .i64 a1_3] from rfl) (Reps.one (show Kd.M (Kd.int .i64) _ _ _ a2_3 [.int .i64 a2_3] from rfl) (Reps.none _ _)))))
         intro v340 w70 ho71 hb hg_ hnew_
         clear hg_ hnew_
         (first | rw [← Ny339.out] at ho71 | (simp only [Int.reduceToNat] at ho71; rw [← Ny339.out] at ho71))
         have n0_ := Aside0.mk (Kd.R_lower ho71 (below_size (hbx HB)))
         have n1_ := kb BK307 hb
         have n2_ := kb BK308 hb
         have n3_ := kb BK309 hb
         have n4_ := kb BK319 hb
         have n5_ := kb BK320 hb
         have n6_ := kb BK321 hb
         have n7_ := kb BK326 hb
         have n8_ := bt HB hb
         clear BK307
         clear BK308
         clear BK309
         clear BK319
         clear BK320
         clear BK321
         clear BK326
         clear HB
         have HO341 := n0_
         have BK307 := n1_
         have BK308 := n2_
         have BK309 := n3_
         have BK319 := n4_
         have BK320 := n5_
         have BK321 := n6_
         have BK326 := n7_
         have HB := n8_
         clear n0_ n1_ n2_ n3_ n4_ n5_ n6_ n7_ n8_
         clear hb ho71
         refine ko hK (fun hHeld => ?_)
         clear hK K
         refine nm 45 ?_
         exact norm_ (by first | (simp only [putAll, Act.put, List.setIfInBounds_toArray, List.set_cons_zero, List.set_cons_succ]; done) | (simp only [putAll, Act.put, List.setIfInBounds_toArray, List.set_cons_zero, List.set_cons_succ]; rfl)) (hJ2_4_7_9_20 (v340) _ ⟨hHeld, (by (with_reducible repeat (first | apply Kd.R_alloc | apply Kd.R_drewN | apply Kd.R_drew)); exact HO341.out), (kbx BK307), (kbx BK308), (kbx BK309), (kbx BK319), (kbx BK320), (kbx BK321), (kbx BK326), (hbx HB)⟩)
      ·skip
       rintro v340 w71 ⟨hS_, h0_, h1_, h2_, h3_, h4_, h5_, h6_, h7_, h8_⟩
       have n0_ : Aside0 (Kd.R (Kd.int .i64) 3 w71 w.heap.size (fun _ => True) v340 y339) := ⟨h0_⟩
       have n1_ : Aside0 (w71.heap[gb307]? = some (.cells #[.int .i64 a0_0, .int .i64 a0_1, .int .i64 a0_2, .int .i64 a0_3] 23 (0, 0))) := ⟨h1_⟩
       have n2_ : Aside0 (w71.heap[gb308]? = some (.cells #[.int .i64 a1_0, .int .i64 a1_1, .int .i64 a1_2, .int .i64 a1_3] 23 (0, 0))) := ⟨h2_⟩
       have n3_ : Aside0 (w71.heap[gb309]? = some (.cells #[.int .i64 a2_0, .int .i64 a2_1, .int .i64 a2_2, .int .i64 a2_3] 23 (0, 0))) := ⟨h3_⟩
       have n4_ : Aside0 (w71.heap[gb319]? = some (.cells #[.int .i64 t310, .int .i64 t311, .int .i64 t312] 128 (0, 0))) := ⟨h4_⟩
       have n5_ : Aside0 (w71.heap[gb320]? = some (.cells #[.int .i64 t313, .int .i64 t314, .int .i64 t315] 128 (0, 0))) := ⟨h5_⟩
       have n6_ : Aside0 (w71.heap[gb321]? = some (.cells #[.int .i64 t316, .int .i64 t317, .int .i64 t318] 128 (0, 0))) := ⟨h6_⟩
       have n7_ : Aside0 (w71.heap[gb326]? = some (.cells #[.int .i64 t323, .int .i64 t324, .int .i64 t325] 128 (0, 0))) := ⟨h7_⟩
       have n8_ : Aside0 (Below w.heap.size w w71) := ⟨h8_⟩
       clear BK307
       clear BK308
       clear BK309
       clear BK319
       clear BK320
       clear BK321
       clear BK326
       clear HB
       clear h0_ h1_ h2_ h3_ h4_ h5_ h6_ h7_ h8_
       have HO341 := n0_
       have BK307 := n1_
       have BK308 := n2_
       have BK309 := n3_
       have BK319 := n4_
       have BK320 := n5_
       have BK321 := n6_
       have BK326 := n7_
       have HB := n8_
       clear n0_ n1_ n2_ n3_ n4_ n5_ n6_ n7_ n8_
       have hHeld : w71.cell? ⟨gb320, 0, none⟩ = some (.int .i64 t313) ∧ w71.cell? ⟨gb320, 1, none⟩ = some (.int .i64 t314) ∧ w71.cell? ⟨gb320, 2, none⟩ = some (.int .i64 t315) ∧ w71.cell? ⟨gb321, 0, none⟩ = some (.int .i64 t316) ∧ w71.cell? ⟨gb321, 1, none⟩ = some (.int .i64 t317) ∧ w71.cell? ⟨gb321, 2, none⟩ = some (.int .i64 t318) ∧ w71.cell? ⟨gb326, 0, none⟩ = some (.int .i64 t323) ∧ w71.cell? ⟨gb326, 1, none⟩ = some (.int .i64 t324) ∧ w71.cell? ⟨gb326, 2, none⟩ = some (.int .i64 t325) ∧ w71.cell? ⟨gb319, 0, none⟩ = some (.int .i64 t310) ∧ w71.cell? ⟨gb319, 1, none⟩ = some (.int .i64 t311) ∧ w71.cell? ⟨gb319, 2, none⟩ = some (.int .i64 t312) ∧ w71.cell? ⟨gb307, 0, none⟩ = some (.int .i64 a0_0) ∧ w71.cell? ⟨gb307, 1, none⟩ = some (.int .i64 a0_1) ∧ w71.cell? ⟨gb307, 2, none⟩ = some (.int .i64 a0_2) ∧ w71.cell? ⟨gb307, 3, none⟩ = some (.int .i64 a0_3) ∧ w71.cell? ⟨gb308, 0, none⟩ = some (.int .i64 a1_0) ∧ w71.cell? ⟨gb308, 1, none⟩ = some (.int .i64 a1_1) ∧ w71.cell? ⟨gb308, 2, none⟩ = some (.int .i64 a1_2) ∧ w71.cell? ⟨gb308, 3, none⟩ = some (.int .i64 a1_3) ∧ w71.cell? ⟨gb309, 0, none⟩ = some (.int .i64 a2_0) ∧ w71.cell? ⟨gb309, 1, none⟩ = some (.int .i64 a2_1) ∧ w71.cell? ⟨gb309, 2, none⟩ = some (.int .i64 a2_2) ∧ w71.cell? ⟨gb309, 3, none⟩ = some (.int .i64 a2_3) := hS_
       refine norm_ (a' := ?_) ?_ ?_
       rotate_left
       ·simp only [putAll, Act.put, List.setIfInBounds_toArray, List.set_cons_zero, List.set_cons_succ]
        rfl
       refine oS 12 37 2088959 (fun K hK => ?_)
       refine gO Try.func172 #[.agg #[.int .i64 t323, .int .i64 t324, .int .i64 t325], .agg #[.int .i64 t323, .int .i64 t324, .int .i64 t325]] ?_
       with_reducible refine (impl_dot.calls t323 t324 t325 t323 t324 t325 t335 _ A14.out).mono ?_
       rintro e w72 ⟨rfl, hb⟩
       refine ⟨_, rfl, ?_⟩
       have n0_ := Aside0.mk (Kd.R_below (by (with_reducible repeat (first | apply Kd.R_alloc | apply Kd.R_drewN | apply Kd.R_drew)); exact HO341.out) hb)
       have n1_ := kb BK307 hb
       have n2_ := kb BK308 hb
       have n3_ := kb BK309 hb
       have n4_ := kb BK319 hb
       have n5_ := kb BK320 hb
       have n6_ := kb BK321 hb
       have n7_ := kb BK326 hb
       have n8_ := bt HB hb
       clear HO341
       clear BK307
       clear BK308
       clear BK309
       clear BK319
       clear BK320
       clear BK321
       clear BK326
       clear HB
       have HO341 := n0_
       have BK307 := n1_
       have BK308 := n2_
       have BK309 := n3_
       have BK319 := n4_
       have BK320 := n5_
       have BK321 := n6_
       have BK326 := n7_
       have HB := n8_
       clear n0_ n1_ n2_ n3_ n4_ n5_ n6_ n7_ n8_
       (try clear hb)
       (try clear hb2)
       (try clear hk)
       (try clear hi)
       refine ko hK (fun hHeld => ?_)
       clear hK K
       refine nm 37 ?_
       exact norm_ (by first | (simp only [putAll, Act.put, List.setIfInBounds_toArray, List.set_cons_zero, List.set_cons_succ]; done) | (simp only [putAll, Act.put, List.setIfInBounds_toArray, List.set_cons_zero, List.set_cons_succ]; rfl)) (hJ2_4_7_9_12_20 (v340) _ ⟨hHeld, (by (with_reducible repeat (first | apply Kd.R_alloc | apply Kd.R_drewN | apply Kd.R_drew)); exact HO341.out), (kbx BK307), (kbx BK308), (kbx BK309), (kbx BK319), (kbx BK320), (kbx BK321), (kbx BK326), (hbx HB)⟩)
     ·skip
      rintro _ w70 ⟨hS_, h0_, h1_, h2_, h3_, h4_, h5_, h6_, h7_⟩
      have n0_ : Aside0 (w70.heap[gb307]? = some (.cells #[.int .i64 a0_0, .int .i64 a0_1, .int .i64 a0_2, .int .i64 a0_3] 23 (0, 0))) := ⟨h0_⟩
      have n1_ : Aside0 (w70.heap[gb308]? = some (.cells #[.int .i64 a1_0, .int .i64 a1_1, .int .i64 a1_2, .int .i64 a1_3] 23 (0, 0))) := ⟨h1_⟩
      have n2_ : Aside0 (w70.heap[gb309]? = some (.cells #[.int .i64 a2_0, .int .i64 a2_1, .int .i64 a2_2, .int .i64 a2_3] 23 (0, 0))) := ⟨h2_⟩
      have n3_ : Aside0 (w70.heap[gb319]? = some (.cells #[.int .i64 t310, .int .i64 t311, .int .i64 t312] 128 (0, 0))) := ⟨h3_⟩
      have n4_ : Aside0 (w70.heap[gb320]? = some (.cells #[.int .i64 t313, .int .i64 t314, .int .i64 t315] 128 (0, 0))) := ⟨h4_⟩
      have n5_ : Aside0 (w70.heap[gb321]? = some (.cells #[.int .i64 t316, .int .i64 t317, .int .i64 t318] 128 (0, 0))) := ⟨h5_⟩
      have n6_ : Aside0 (w70.heap[gb326]? = some (.cells #[.int .i64 t323, .int .i64 t324, .int .i64 t325] 128 (0, 0))) := ⟨h6_⟩
      have n7_ : Aside0 (Below w.heap.size w w70) := ⟨h7_⟩
      clear BK307
      clear BK308
      clear BK309
      clear BK319
      clear BK320
      clear BK321
      clear BK326
      clear HB
      clear h0_ h1_ h2_ h3_ h4_ h5_ h6_ h7_
      have BK307 := n0_
      have BK308 := n1_
      have BK309 := n2_
      have BK319 := n3_
      have BK320 := n4_
      have BK321 := n5_
      have BK326 := n6_
      have HB := n7_
      clear n0_ n1_ n2_ n3_ n4_ n5_ n6_ n7_
      have hHeld : w70.cell? ⟨gb320, 0, none⟩ = some (.int .i64 t313) ∧ w70.cell? ⟨gb320, 1, none⟩ = some (.int .i64 t314) ∧ w70.cell? ⟨gb320, 2, none⟩ = some (.int .i64 t315) ∧ w70.cell? ⟨gb321, 0, none⟩ = some (.int .i64 t316) ∧ w70.cell? ⟨gb321, 1, none⟩ = some (.int .i64 t317) ∧ w70.cell? ⟨gb321, 2, none⟩ = some (.int .i64 t318) ∧ w70.cell? ⟨gb326, 0, none⟩ = some (.int .i64 t323) ∧ w70.cell? ⟨gb326, 1, none⟩ = some (.int .i64 t324) ∧ w70.cell? ⟨gb326, 2, none⟩ = some (.int .i64 t325) ∧ w70.cell? ⟨gb319, 0, none⟩ = some (.int .i64 t310) ∧ w70.cell? ⟨gb319, 1, none⟩ = some (.int .i64 t311) ∧ w70.cell? ⟨gb319, 2, none⟩ = some (.int .i64 t312) ∧ w70.cell? ⟨gb307, 0, none⟩ = some (.int .i64 a0_0) ∧ w70.cell? ⟨gb307, 1, none⟩ = some (.int .i64 a0_1) ∧ w70.cell? ⟨gb307, 2, none⟩ = some (.int .i64 a0_2) ∧ w70.cell? ⟨gb307, 3, none⟩ = some (.int .i64 a0_3) ∧ w70.cell? ⟨gb308, 0, none⟩ = some (.int .i64 a1_0) ∧ w70.cell? ⟨gb308, 1, none⟩ = some (.int .i64 a1_1) ∧ w70.cell? ⟨gb308, 2, none⟩ = some (.int .i64 a1_2) ∧ w70.cell? ⟨gb308, 3, none⟩ = some (.int .i64 a1_3) ∧ w70.cell? ⟨gb309, 0, none⟩ = some (.int .i64 a2_0) ∧ w70.cell? ⟨gb309, 1, none⟩ = some (.int .i64 a2_1) ∧ w70.cell? ⟨gb309, 2, none⟩ = some (.int .i64 a2_2) ∧ w70.cell? ⟨gb309, 3, none⟩ = some (.int .i64 a2_3) := hS_
      refine norm_ (a' := ?_) ?_ ?_
      rotate_left
      ·simp only [putAll, Act.put, List.setIfInBounds_toArray, List.set_cons_zero, List.set_cons_succ]
       rfl
      refine two_ (i := 13) (j := 20) (Ni := some 38) (Nj := some 45) (bl 23 1048575) (bl 23 2088959) rfl rfl rfl rfl (two_of HT_.out (by kernel_rfl)) (by decide) (by decide) (fun K hK => ?_) (fun K hK => ?_)
      ·skip
       refine Kd.R_lit_step (Kd.int .i64) _ 3 ?hg (N := 38) ?hd (xs := ([t330, t334, t335] : List Int)) (inner := [.int .i64 t330, .int .i64 t334, .int .i64 t335]) (ok := fun _ => True) (okp := fun _ => True) ?hr ?hp (fun _ hk => hk) trivial (Below.refl _ _) (Nat.le_refl _) (by simp) ?_; (case hd => rfl); (case hg => rfl); (case hr => first | (go_simp; done) | (go_simp; rfl)); (case hp => exact (Reps.one (show Kd.M (Kd.int .i64) _ _ _ t330 [.int .i64 t330] from rfl) (Reps.one (show Kd.M (Kd.int .i64) _ _ _ t334 [.int .i64 t334] from rfl) (Reps.one (show Kd.M (Kd.int .i64) _ _ _ t335 [.int .i64 t335] from rfl) (Reps.none _ _)))))
       intro v337 w71 ho72 hb hg_ hnew_
       clear hg_ hnew_
       (first | rw [← Ny336.out] at ho72 | (simp only [Int.reduceToNat] at ho72; rw [← Ny336.out] at ho72))
       have n0_ := Aside0.mk (Kd.R_lower ho72 (below_size (hbx HB)))
       have n1_ := kb BK307 hb
       have n2_ := kb BK308 hb
       have n3_ := kb BK309 hb
       have n4_ := kb BK319 hb
       have n5_ := kb BK320 hb
       have n6_ := kb BK321 hb
       have n7_ := kb BK326 hb
       have n8_ := bt HB hb
       clear BK307
       clear BK308
       clear BK309
       clear BK319
       clear BK320
       clear BK321
       clear BK326
       clear HB
       have HO338 := n0_
       have BK307 := n1_
       have BK308 := n2_
       have BK309 := n3_
       have BK319 := n4_
       have BK320 := n5_
       have BK321 := n6_
       have BK326 := n7_
       have HB := n8_
       clear n0_ n1_ n2_ n3_ n4_ n5_ n6_ n7_ n8_
       clear hb ho72
       refine ko hK (fun hHeld => ?_)
       clear hK K
       refine nm 38 ?_
       exact norm_ (by first | (simp only [putAll, Act.put, List.setIfInBounds_toArray, List.set_cons_zero, List.set_cons_succ]; done) | (simp only [putAll, Act.put, List.setIfInBounds_toArray, List.set_cons_zero, List.set_cons_succ]; rfl)) (hJ2_4_7_9_12_13 (v337) _ ⟨hHeld, (by (with_reducible repeat (first | apply Kd.R_alloc | apply Kd.R_drewN | apply Kd.R_drew)); exact HO338.out), (kbx BK307), (kbx BK308), (kbx BK309), (kbx BK319), (kbx BK320), (kbx BK321), (kbx BK326), (hbx HB)⟩)
      ·skip
       refine Kd.R_lit_step (Kd.int .i64) _ 3 ?hg (N := 45) ?hd (xs := ([a0_3, a1_3, a2_3] : List Int)) (inner := [.int .i64 a0_3, .int .i64 a1_3, .int .i64 a2_3]) (ok := fun _ => True) (okp := fun _ => True) ?hr ?hp (fun _ hk => hk) trivial (Below.refl _ _) (Nat.le_refl _) (by simp) ?_; (case hd => rfl); (case hg => rfl); (case hr => first | (go_simp; done) | (go_simp; rfl)); (case hp => exact (Reps.one (show Kd.M (Kd.int .i64) _ _ _ a0_3 [.int .i64 a0_3] from rfl) (Reps.one (show Kd.M (Kd.int .i64) _ _ _ a1_3 [.int .i64 a1_3] from rfl) (Reps.one (show Kd.M (Kd.int .i64) _ _ _ a2_3 [.int .i64 a2_3] from rfl) (Reps.none _ _)))))
       intro v340 w71 ho72 hb hg_ hnew_
       clear hg_ hnew_
       (first | rw [← Ny339.out] at ho72 | (simp only [Int.reduceToNat] at ho72; rw [← Ny339.out] at ho72))
       have n0_ := Aside0.mk (Kd.R_lower ho72 (below_size (hbx HB)))
       have n1_ := kb BK307 hb
       have n2_ := kb BK308 hb
       have n3_ := kb BK309 hb
       have n4_ := kb BK319 hb
       have n5_ := kb BK320 hb
       have n6_ := kb BK321 hb
       have n7_ := kb BK326 hb
       have n8_ := bt HB hb
       clear BK307
       clear BK308
       clear BK309
       clear BK319
       clear BK320
       clear BK321
       clear BK326
       clear HB
       have HO341 := n0_
       have BK307 := n1_
       have BK308 := n2_
       have BK309 := n3_
       have BK319 := n4_
       have BK320 := n5_
       have BK321 := n6_
       have BK326 := n7_
       have HB := n8_
       clear n0_ n1_ n2_ n3_ n4_ n5_ n6_ n7_ n8_
       clear hb ho72
       refine ko hK (fun hHeld => ?_)
       clear hK K
       refine nm 45 ?_
       exact norm_ (by first | (simp only [putAll, Act.put, List.setIfInBounds_toArray, List.set_cons_zero, List.set_cons_succ]; done) | (simp only [putAll, Act.put, List.setIfInBounds_toArray, List.set_cons_zero, List.set_cons_succ]; rfl)) (hJ2_4_7_9_12_20 (v340) _ ⟨hHeld, (by (with_reducible repeat (first | apply Kd.R_alloc | apply Kd.R_drewN | apply Kd.R_drew)); exact HO341.out), (kbx BK307), (kbx BK308), (kbx BK309), (kbx BK319), (kbx BK320), (kbx BK321), (kbx BK326), (hbx HB)⟩)
    ·skip
     rintro v340 w72 ⟨hS_, h0_, h1_, h2_, h3_, h4_, h5_, h6_, h7_, h8_⟩
     have n0_ : Aside0 (Kd.R (Kd.int .i64) 3 w72 w.heap.size (fun _ => True) v340 y339) := ⟨h0_⟩
     have n1_ : Aside0 (w72.heap[gb307]? = some (.cells #[.int .i64 a0_0, .int .i64 a0_1, .int .i64 a0_2, .int .i64 a0_3] 23 (0, 0))) := ⟨h1_⟩
     have n2_ : Aside0 (w72.heap[gb308]? = some (.cells #[.int .i64 a1_0, .int .i64 a1_1, .int .i64 a1_2, .int .i64 a1_3] 23 (0, 0))) := ⟨h2_⟩
     have n3_ : Aside0 (w72.heap[gb309]? = some (.cells #[.int .i64 a2_0, .int .i64 a2_1, .int .i64 a2_2, .int .i64 a2_3] 23 (0, 0))) := ⟨h3_⟩
     have n4_ : Aside0 (w72.heap[gb319]? = some (.cells #[.int .i64 t310, .int .i64 t311, .int .i64 t312] 128 (0, 0))) := ⟨h4_⟩
     have n5_ : Aside0 (w72.heap[gb320]? = some (.cells #[.int .i64 t313, .int .i64 t314, .int .i64 t315] 128 (0, 0))) := ⟨h5_⟩
     have n6_ : Aside0 (w72.heap[gb321]? = some (.cells #[.int .i64 t316, .int .i64 t317, .int .i64 t318] 128 (0, 0))) := ⟨h6_⟩
     have n7_ : Aside0 (w72.heap[gb326]? = some (.cells #[.int .i64 t323, .int .i64 t324, .int .i64 t325] 128 (0, 0))) := ⟨h7_⟩
     have n8_ : Aside0 (Below w.heap.size w w72) := ⟨h8_⟩
     clear BK307
     clear BK308
     clear BK309
     clear BK319
     clear BK320
     clear BK321
     clear BK326
     clear HB
     clear h0_ h1_ h2_ h3_ h4_ h5_ h6_ h7_ h8_
     have HO341 := n0_
     have BK307 := n1_
     have BK308 := n2_
     have BK309 := n3_
     have BK319 := n4_
     have BK320 := n5_
     have BK321 := n6_
     have BK326 := n7_
     have HB := n8_
     clear n0_ n1_ n2_ n3_ n4_ n5_ n6_ n7_ n8_
     have hHeld : w72.cell? ⟨gb320, 0, none⟩ = some (.int .i64 t313) ∧ w72.cell? ⟨gb320, 1, none⟩ = some (.int .i64 t314) ∧ w72.cell? ⟨gb320, 2, none⟩ = some (.int .i64 t315) ∧ w72.cell? ⟨gb321, 0, none⟩ = some (.int .i64 t316) ∧ w72.cell? ⟨gb321, 1, none⟩ = some (.int .i64 t317) ∧ w72.cell? ⟨gb321, 2, none⟩ = some (.int .i64 t318) ∧ w72.cell? ⟨gb326, 0, none⟩ = some (.int .i64 t323) ∧ w72.cell? ⟨gb326, 1, none⟩ = some (.int .i64 t324) ∧ w72.cell? ⟨gb326, 2, none⟩ = some (.int .i64 t325) ∧ w72.cell? ⟨gb319, 0, none⟩ = some (.int .i64 t310) ∧ w72.cell? ⟨gb319, 1, none⟩ = some (.int .i64 t311) ∧ w72.cell? ⟨gb319, 2, none⟩ = some (.int .i64 t312) ∧ w72.cell? ⟨gb307, 0, none⟩ = some (.int .i64 a0_0) ∧ w72.cell? ⟨gb307, 1, none⟩ = some (.int .i64 a0_1) ∧ w72.cell? ⟨gb307, 2, none⟩ = some (.int .i64 a0_2) ∧ w72.cell? ⟨gb307, 3, none⟩ = some (.int .i64 a0_3) ∧ w72.cell? ⟨gb308, 0, none⟩ = some (.int .i64 a1_0) ∧ w72.cell? ⟨gb308, 1, none⟩ = some (.int .i64 a1_1) ∧ w72.cell? ⟨gb308, 2, none⟩ = some (.int .i64 a1_2) ∧ w72.cell? ⟨gb308, 3, none⟩ = some (.int .i64 a1_3) ∧ w72.cell? ⟨gb309, 0, none⟩ = some (.int .i64 a2_0) ∧ w72.cell? ⟨gb309, 1, none⟩ = some (.int .i64 a2_1) ∧ w72.cell? ⟨gb309, 2, none⟩ = some (.int .i64 a2_2) ∧ w72.cell? ⟨gb309, 3, none⟩ = some (.int .i64 a2_3) := hS_
     refine norm_ (a' := ?_) ?_ ?_
     rotate_left
     ·simp only [putAll, Act.put, List.setIfInBounds_toArray, List.set_cons_zero, List.set_cons_succ]
      rfl
     refine oS 13 38 2097151 (fun K hK => ?_)
     refine Kd.R_lit_step (Kd.int .i64) _ 3 ?hg (N := 38) ?hd (xs := ([t330, t334, t335] : List Int)) (inner := [.int .i64 t330, .int .i64 t334, .int .i64 t335]) (ok := fun _ => True) (okp := fun _ => True) ?hr ?hp (fun _ hk => hk) trivial (Below.refl _ _) (Nat.le_refl _) (by simp) ?_; (case hd => rfl); (case hg => rfl); (case hr => first | (go_simp; done) | (go_simp; rfl)); (case hp => exact (Reps.one (show Kd.M (Kd.int .i64) _ _ _ t330 [.int .i64 t330] from rfl) (Reps.one (show Kd.M (Kd.int .i64) _ _ _ t334 [.int .i64 t334] from rfl) (Reps.one (show Kd.M (Kd.int .i64) _ _ _ t335 [.int .i64 t335] from rfl) (Reps.none _ _)))))
     intro v337 w73 ho74 hb hg_ hnew_
     clear hg_ hnew_
     (first | rw [← Ny336.out] at ho74 | (simp only [Int.reduceToNat] at ho74; rw [← Ny336.out] at ho74))
     have n0_ := Aside0.mk (Kd.R_elder' (by (with_reducible repeat (first | apply Kd.R_alloc | apply Kd.R_drewN | apply Kd.R_drew)); exact HO341.out) (Kd.R_base ho74) hb)
     have n1_ := Aside0.mk (Kd.R_lower (Kd.R_new' ho74 (Kd.R_lt (by (with_reducible repeat (first | apply Kd.R_alloc | apply Kd.R_drewN | apply Kd.R_drew)); exact HO341.out))) (below_size (hbx HB)))
     have n2_ := kb BK307 hb
     have n3_ := kb BK308 hb
     have n4_ := kb BK309 hb
     have n5_ := kb BK319 hb
     have n6_ := kb BK320 hb
     have n7_ := kb BK321 hb
     have n8_ := kb BK326 hb
     have n9_ := bt HB hb
     clear HO341
     clear BK307
     clear BK308
     clear BK309
     clear BK319
     clear BK320
     clear BK321
     clear BK326
     clear HB
     have HO341 := n0_
     have HO338 := n1_
     have BK307 := n2_
     have BK308 := n3_
     have BK309 := n4_
     have BK319 := n5_
     have BK320 := n6_
     have BK321 := n7_
     have BK326 := n8_
     have HB := n9_
     clear n0_ n1_ n2_ n3_ n4_ n5_ n6_ n7_ n8_ n9_
     clear hb ho74
     refine ko hK (fun hHeld => ?_)
     clear hK K
     refine nm 38 ?_
     exact norm_ (by first | (simp only [putAll, Act.put, List.setIfInBounds_toArray, List.set_cons_zero, List.set_cons_succ]; done) | (simp only [putAll, Act.put, List.setIfInBounds_toArray, List.set_cons_zero, List.set_cons_succ]; rfl)) (hJ2_4_7_9_12_13_20 (v337, v340) _ ⟨hHeld, (by (with_reducible repeat (first | apply Kd.R_alloc | apply Kd.R_drewN | apply Kd.R_drew)); exact Kd.R_mono HO338.out (fun _ hk => hk.2)), (by (with_reducible repeat (first | apply Kd.R_alloc | apply Kd.R_drewN | apply Kd.R_drew)); exact Kd.R_mono HO341.out (fun _ hk => hk.2)), (kbx BK307), (kbx BK308), (kbx BK309), (kbx BK319), (kbx BK320), (kbx BK321), (kbx BK326), (hbx HB)⟩)
   ·skip
    rintro v337 w72 ⟨hS_, h0_, h1_, h2_, h3_, h4_, h5_, h6_, h7_, h8_⟩
    have n0_ : Aside0 (Kd.R (Kd.int .i64) 3 w72 w.heap.size (fun _ => True) v337 y336) := ⟨h0_⟩
    have n1_ : Aside0 (w72.heap[gb307]? = some (.cells #[.int .i64 a0_0, .int .i64 a0_1, .int .i64 a0_2, .int .i64 a0_3] 23 (0, 0))) := ⟨h1_⟩
    have n2_ : Aside0 (w72.heap[gb308]? = some (.cells #[.int .i64 a1_0, .int .i64 a1_1, .int .i64 a1_2, .int .i64 a1_3] 23 (0, 0))) := ⟨h2_⟩
    have n3_ : Aside0 (w72.heap[gb309]? = some (.cells #[.int .i64 a2_0, .int .i64 a2_1, .int .i64 a2_2, .int .i64 a2_3] 23 (0, 0))) := ⟨h3_⟩
    have n4_ : Aside0 (w72.heap[gb319]? = some (.cells #[.int .i64 t310, .int .i64 t311, .int .i64 t312] 128 (0, 0))) := ⟨h4_⟩
    have n5_ : Aside0 (w72.heap[gb320]? = some (.cells #[.int .i64 t313, .int .i64 t314, .int .i64 t315] 128 (0, 0))) := ⟨h5_⟩
    have n6_ : Aside0 (w72.heap[gb321]? = some (.cells #[.int .i64 t316, .int .i64 t317, .int .i64 t318] 128 (0, 0))) := ⟨h6_⟩
    have n7_ : Aside0 (w72.heap[gb326]? = some (.cells #[.int .i64 t323, .int .i64 t324, .int .i64 t325] 128 (0, 0))) := ⟨h7_⟩
    have n8_ : Aside0 (Below w.heap.size w w72) := ⟨h8_⟩
    clear BK307
    clear BK308
    clear BK309
    clear BK319
    clear BK320
    clear BK321
    clear BK326
    clear HB
    clear h0_ h1_ h2_ h3_ h4_ h5_ h6_ h7_ h8_
    have HO338 := n0_
    have BK307 := n1_
    have BK308 := n2_
    have BK309 := n3_
    have BK319 := n4_
    have BK320 := n5_
    have BK321 := n6_
    have BK326 := n7_
    have HB := n8_
    clear n0_ n1_ n2_ n3_ n4_ n5_ n6_ n7_ n8_
    have hHeld : w72.cell? ⟨gb320, 0, none⟩ = some (.int .i64 t313) ∧ w72.cell? ⟨gb320, 1, none⟩ = some (.int .i64 t314) ∧ w72.cell? ⟨gb320, 2, none⟩ = some (.int .i64 t315) ∧ w72.cell? ⟨gb321, 0, none⟩ = some (.int .i64 t316) ∧ w72.cell? ⟨gb321, 1, none⟩ = some (.int .i64 t317) ∧ w72.cell? ⟨gb321, 2, none⟩ = some (.int .i64 t318) ∧ w72.cell? ⟨gb326, 0, none⟩ = some (.int .i64 t323) ∧ w72.cell? ⟨gb326, 1, none⟩ = some (.int .i64 t324) ∧ w72.cell? ⟨gb326, 2, none⟩ = some (.int .i64 t325) ∧ w72.cell? ⟨gb319, 0, none⟩ = some (.int .i64 t310) ∧ w72.cell? ⟨gb319, 1, none⟩ = some (.int .i64 t311) ∧ w72.cell? ⟨gb319, 2, none⟩ = some (.int .i64 t312) ∧ w72.cell? ⟨gb307, 0, none⟩ = some (.int .i64 a0_0) ∧ w72.cell? ⟨gb307, 1, none⟩ = some (.int .i64 a0_1) ∧ w72.cell? ⟨gb307, 2, none⟩ = some (.int .i64 a0_2) ∧ w72.cell? ⟨gb307, 3, none⟩ = some (.int .i64 a0_3) ∧ w72.cell? ⟨gb308, 0, none⟩ = some (.int .i64 a1_0) ∧ w72.cell? ⟨gb308, 1, none⟩ = some (.int .i64 a1_1) ∧ w72.cell? ⟨gb308, 2, none⟩ = some (.int .i64 a1_2) ∧ w72.cell? ⟨gb308, 3, none⟩ = some (.int .i64 a1_3) ∧ w72.cell? ⟨gb309, 0, none⟩ = some (.int .i64 a2_0) ∧ w72.cell? ⟨gb309, 1, none⟩ = some (.int .i64 a2_1) ∧ w72.cell? ⟨gb309, 2, none⟩ = some (.int .i64 a2_2) ∧ w72.cell? ⟨gb309, 3, none⟩ = some (.int .i64 a2_3) := hS_
    refine norm_ (a' := ?_) ?_ ?_
    rotate_left
    ·simp only [putAll, Act.put, List.setIfInBounds_toArray, List.set_cons_zero, List.set_cons_succ]
     rfl
    refine oS 20 45 2097151 (fun K hK => ?_)
    refine Kd.R_lit_step (Kd.int .i64) _ 3 ?hg (N := 45) ?hd (xs := ([a0_3, a1_3, a2_3] : List Int)) (inner := [.int .i64 a0_3, .int .i64 a1_3, .int .i64 a2_3]) (ok := fun _ => True) (okp := fun _ => True) ?hr ?hp (fun _ hk => hk) trivial (Below.refl _ _) (Nat.le_refl _) (by simp) ?_; (case hd => rfl); (case hg => rfl); (case hr => first | (go_simp; done) | (go_simp; rfl)); (case hp => exact (Reps.one (show Kd.M (Kd.int .i64) _ _ _ a0_3 [.int .i64 a0_3] from rfl) (Reps.one (show Kd.M (Kd.int .i64) _ _ _ a1_3 [.int .i64 a1_3] from rfl) (Reps.one (show Kd.M (Kd.int .i64) _ _ _ a2_3 [.int .i64 a2_3] from rfl) (Reps.none _ _)))))
    intro v340 w73 ho74 hb hg_ hnew_
    clear hg_ hnew_
    (first | rw [← Ny339.out] at ho74 | (simp only [Int.reduceToNat] at ho74; rw [← Ny339.out] at ho74))
    have n0_ := Aside0.mk (Kd.R_elder' (by (with_reducible repeat (first | apply Kd.R_alloc | apply Kd.R_drewN | apply Kd.R_drew)); exact HO338.out) (Kd.R_base ho74) hb)
    have n1_ := Aside0.mk (Kd.R_lower (Kd.R_new' ho74 (Kd.R_lt (by (with_reducible repeat (first | apply Kd.R_alloc | apply Kd.R_drewN | apply Kd.R_drew)); exact HO338.out))) (below_size (hbx HB)))
    have n2_ := kb BK307 hb
    have n3_ := kb BK308 hb
    have n4_ := kb BK309 hb
    have n5_ := kb BK319 hb
    have n6_ := kb BK320 hb
    have n7_ := kb BK321 hb
    have n8_ := kb BK326 hb
    have n9_ := bt HB hb
    clear HO338
    clear BK307
    clear BK308
    clear BK309
    clear BK319
    clear BK320
    clear BK321
    clear BK326
    clear HB
    have HO338 := n0_
    have HO341 := n1_
    have BK307 := n2_
    have BK308 := n3_
    have BK309 := n4_
    have BK319 := n5_
    have BK320 := n6_
    have BK321 := n7_
    have BK326 := n8_
    have HB := n9_
    clear n0_ n1_ n2_ n3_ n4_ n5_ n6_ n7_ n8_ n9_
    clear hb ho74
    refine ko hK (fun hHeld => ?_)
    clear hK K
    refine nm 45 ?_
    exact norm_ (by first | (simp only [putAll, Act.put, List.setIfInBounds_toArray, List.set_cons_zero, List.set_cons_succ]; done) | (simp only [putAll, Act.put, List.setIfInBounds_toArray, List.set_cons_zero, List.set_cons_succ]; rfl)) (hJ2_4_7_9_12_13_20 (v337, v340) _ ⟨hHeld, (by (with_reducible repeat (first | apply Kd.R_alloc | apply Kd.R_drewN | apply Kd.R_drew)); exact Kd.R_mono HO338.out (fun _ hk => hk.2)), (by (with_reducible repeat (first | apply Kd.R_alloc | apply Kd.R_drewN | apply Kd.R_drew)); exact Kd.R_mono HO341.out (fun _ hk => hk.2)), (kbx BK307), (kbx BK308), (kbx BK309), (kbx BK319), (kbx BK320), (kbx BK321), (kbx BK326), (hbx HB)⟩)
  rintro ⟨v337, v340⟩ w74 ⟨hS_, h0_, h1_, h2_, h3_, h4_, h5_, h6_, h7_, h8_, h9_⟩
  have n0_ : Aside0 (Kd.R (Kd.int .i64) 3 w74 w.heap.size (fun k_ => some k_ ≠ (v340 : Value).ownBlock) v337 y336) := ⟨h0_⟩
  have n1_ : Aside0 (Kd.R (Kd.int .i64) 3 w74 w.heap.size (fun k_ => some k_ ≠ (v337 : Value).ownBlock) v340 y339) := ⟨h1_⟩
  have n2_ : Aside0 (w74.heap[gb307]? = some (.cells #[.int .i64 a0_0, .int .i64 a0_1, .int .i64 a0_2, .int .i64 a0_3] 23 (0, 0))) := ⟨h2_⟩
  have n3_ : Aside0 (w74.heap[gb308]? = some (.cells #[.int .i64 a1_0, .int .i64 a1_1, .int .i64 a1_2, .int .i64 a1_3] 23 (0, 0))) := ⟨h3_⟩
  have n4_ : Aside0 (w74.heap[gb309]? = some (.cells #[.int .i64 a2_0, .int .i64 a2_1, .int .i64 a2_2, .int .i64 a2_3] 23 (0, 0))) := ⟨h4_⟩
  have n5_ : Aside0 (w74.heap[gb319]? = some (.cells #[.int .i64 t310, .int .i64 t311, .int .i64 t312] 128 (0, 0))) := ⟨h5_⟩
  have n6_ : Aside0 (w74.heap[gb320]? = some (.cells #[.int .i64 t313, .int .i64 t314, .int .i64 t315] 128 (0, 0))) := ⟨h6_⟩
  have n7_ : Aside0 (w74.heap[gb321]? = some (.cells #[.int .i64 t316, .int .i64 t317, .int .i64 t318] 128 (0, 0))) := ⟨h7_⟩
  have n8_ : Aside0 (w74.heap[gb326]? = some (.cells #[.int .i64 t323, .int .i64 t324, .int .i64 t325] 128 (0, 0))) := ⟨h8_⟩
  have n9_ : Aside0 (Below w.heap.size w w74) := ⟨h9_⟩
  clear BK307
  clear BK308
  clear BK309
  clear BK319
  clear BK320
  clear BK321
  clear BK326
  clear HB
  clear h0_ h1_ h2_ h3_ h4_ h5_ h6_ h7_ h8_ h9_
  have HO338 := n0_
  have HO341 := n1_
  have BK307 := n2_
  have BK308 := n3_
  have BK309 := n4_
  have BK319 := n5_
  have BK320 := n6_
  have BK321 := n7_
  have BK326 := n8_
  have HB := n9_
  clear n0_ n1_ n2_ n3_ n4_ n5_ n6_ n7_ n8_ n9_
  have hHeld : w74.cell? ⟨gb320, 0, none⟩ = some (.int .i64 t313) ∧ w74.cell? ⟨gb320, 1, none⟩ = some (.int .i64 t314) ∧ w74.cell? ⟨gb320, 2, none⟩ = some (.int .i64 t315) ∧ w74.cell? ⟨gb321, 0, none⟩ = some (.int .i64 t316) ∧ w74.cell? ⟨gb321, 1, none⟩ = some (.int .i64 t317) ∧ w74.cell? ⟨gb321, 2, none⟩ = some (.int .i64 t318) ∧ w74.cell? ⟨gb326, 0, none⟩ = some (.int .i64 t323) ∧ w74.cell? ⟨gb326, 1, none⟩ = some (.int .i64 t324) ∧ w74.cell? ⟨gb326, 2, none⟩ = some (.int .i64 t325) ∧ w74.cell? ⟨gb319, 0, none⟩ = some (.int .i64 t310) ∧ w74.cell? ⟨gb319, 1, none⟩ = some (.int .i64 t311) ∧ w74.cell? ⟨gb319, 2, none⟩ = some (.int .i64 t312) ∧ w74.cell? ⟨gb307, 0, none⟩ = some (.int .i64 a0_0) ∧ w74.cell? ⟨gb307, 1, none⟩ = some (.int .i64 a0_1) ∧ w74.cell? ⟨gb307, 2, none⟩ = some (.int .i64 a0_2) ∧ w74.cell? ⟨gb307, 3, none⟩ = some (.int .i64 a0_3) ∧ w74.cell? ⟨gb308, 0, none⟩ = some (.int .i64 a1_0) ∧ w74.cell? ⟨gb308, 1, none⟩ = some (.int .i64 a1_1) ∧ w74.cell? ⟨gb308, 2, none⟩ = some (.int .i64 a1_2) ∧ w74.cell? ⟨gb308, 3, none⟩ = some (.int .i64 a1_3) ∧ w74.cell? ⟨gb309, 0, none⟩ = some (.int .i64 a2_0) ∧ w74.cell? ⟨gb309, 1, none⟩ = some (.int .i64 a2_1) ∧ w74.cell? ⟨gb309, 2, none⟩ = some (.int .i64 a2_2) ∧ w74.cell? ⟨gb309, 3, none⟩ = some (.int .i64 a2_3) := hS_
  obtain ⟨Ao75, co75, eo75⟩ := Kd.R_slice HO338.out
  (first | subst eo75 | (injection eo75 with f1_ f2_ f3_; have f4_ := f1_.symm; have f5_ := f3_.symm; clear f1_ f2_ f3_; subst f4_; subst f5_))
  obtain ⟨Ao76, co76, eo76⟩ := Kd.R_slice HO341.out
  (first | subst eo76 | (injection eo76 with f1_ f2_ f3_; have f4_ := f1_.symm; have f5_ := f3_.symm; clear f1_ f2_ f3_; subst f4_; subst f5_))
  refine norm_ (a' := ?_) ?_ ?_
  rotate_left
  ·simp only [putAll, Act.put, List.setIfInBounds_toArray, List.set_cons_zero, List.set_cons_succ]
   rfl
  refine oS 21 46 4194303 (fun K hK => ?_)
  refine gO Try.func178 #[.slice Ao75 y336.length co75, .slice Ao76 y339.length co76] ?_
  with_reducible refine (impl_weighs.calls k _ _ y336 _ _ y339 t342 _ ?side1 ?side2 ?side3 ?side4 A15.out).mono ?_
  (case side1 => repeat (first | exact (Kd.R_reads' HO338.out).2.2 | (with_reducible refine Kd.C_alloc ?_ _) | (with_reducible refine Kd.C_drewN ?_ _) | (with_reducible refine Kd.C_drew ?_)))
  (case side2 => exact (Kd.R_reads' HO338.out).2.1)
  (case side3 => repeat (first | exact (Kd.R_reads' HO341.out).2.2 | (with_reducible refine Kd.C_alloc ?_ _) | (with_reducible refine Kd.C_drewN ?_ _) | (with_reducible refine Kd.C_drew ?_)))
  (case side4 => exact (Kd.R_reads' HO341.out).2.1)
  rintro e w' ⟨rfl, ⟨nd, rfl⟩⟩
  refine ⟨_, rfl, ?_⟩
  refine ko hK (fun hHeld => ?_)
  clear hK K
  refine nm 46 ?_
  refine pS 22 6 8388607 ?_
  refine done_ (done_of HT_.out (by kernel_rfl)) ?_
  try go_wp2
  go_ret
  exact fin HB
 ·rw [if_neg c8] at H
  have c8b0 : (t322 == 0) = false := beq_eq_false_iff_ne.mpr c8
  have c8b1 : (t322 != 0) = true := bne_iff_ne.mpr c8
  obtain rfl := Option.some.inj H
  go_enter Try.func165, Try.ntmps165
  try go_wp2_with (first | ((with_reducible refine gate_dst (N := 3) rfl ?_); refine box_event ?hg (N := 3) ?hd (cs := #[.int .i64 a0_0, .int .i64 a0_1, .int .i64 a0_2, .int .i64 a0_3]) (t := 23) ?hr ?_; (case hd => rfl); (case hg => rfl); (case hr => first | (go_simp; done) | (go_simp; rfl)); intro gb307 hg w77 hbox hb; have n0_ := bt HB hb; have n1_ := Aside0.mk (hbox); have n2_ := gx hg HB; have n3_ := gx hg HB; clear HB; have HB := n0_; have BK307 := n1_; have GW307 := n2_; have GE307 := n3_; clear n0_ n1_ n2_ n3_; clear hb hbox hg) | ((with_reducible refine gate_dst (N := 4) rfl ?_); refine box_event ?hg (N := 4) ?hd (cs := #[.int .i64 a1_0, .int .i64 a1_1, .int .i64 a1_2, .int .i64 a1_3]) (t := 23) ?hr ?_; (case hd => rfl); (case hg => rfl); (case hr => first | (go_simp; done) | (go_simp; rfl)); intro gb308 hg w78 hbox hb; have n0_ := kb BK307 hb; have n1_ := bt HB hb; have n2_ := Aside0.mk (hbox); have n3_ := gx hg HB; have n4_ := gx hg HB; have n5_ := nl hg BK307; have n6_ := nr hg BK307; clear BK307; clear HB; have BK307 := n0_; have HB := n1_; have BK308 := n2_; have GW308 := n3_; have GE308 := n4_; have NB307_308 := n5_; have NB308_307 := n6_; clear n0_ n1_ n2_ n3_ n4_ n5_ n6_; clear hb hbox hg) | ((with_reducible refine gate_dst (N := 5) rfl ?_); refine box_event ?hg (N := 5) ?hd (cs := #[.int .i64 a2_0, .int .i64 a2_1, .int .i64 a2_2, .int .i64 a2_3]) (t := 23) ?hr ?_; (case hd => rfl); (case hg => rfl); (case hr => first | (go_simp; done) | (go_simp; rfl)); intro gb309 hg w79 hbox hb; have n0_ := kb BK307 hb; have n1_ := kb BK308 hb; have n2_ := bt HB hb; have n3_ := Aside0.mk (hbox); have n4_ := gx hg HB; have n5_ := gx hg HB; have n6_ := nl hg BK307; have n7_ := nr hg BK307; have n8_ := nl hg BK308; have n9_ := nr hg BK308; clear BK307; clear BK308; clear HB; have BK307 := n0_; have BK308 := n1_; have HB := n2_; have BK309 := n3_; have GW309 := n4_; have GE309 := n5_; have NB307_309 := n6_; have NB309_307 := n7_; have NB308_309 := n8_; have NB309_308 := n9_; clear n0_ n1_ n2_ n3_ n4_ n5_ n6_ n7_ n8_ n9_; clear hb hbox hg))
  have n0_ := Aside0.mk (blk_drew BK307.out)
  have n1_ := Aside0.mk (blk_drew BK308.out)
  have n2_ := Aside0.mk (blk_drew BK309.out)
  have n3_ := Aside0.mk (below_drew1 HB.out)
  clear BK307
  clear BK308
  clear BK309
  clear HB
  have BK307 := n0_
  have BK308 := n1_
  have BK309 := n2_
  have HB := n3_
  clear n0_ n1_ n2_ n3_
  refine start_ (n := 12) (S := fun w' => True) (ds := []) (bl 12 0) (by kernel_rfl) rfl rfl trivial (fun hHeld => ?_); refine with_tabW impl_clash3.tab1 impl_clash3.bits1 (fun HT_ HW_ => ?_)
  generalize w79.drew = w80 at BK307 BK308 BK309 HB hHeld ⊢
  refine inv_at [0, 1, 2, 3, 4, 5, 6, 7, 8, 9, 10, 11] (fun a0_ b a w' => ∃ (gb319 : Nat) (gb320 : Nat) (gb321 : Nat) (m6_ : Value) (m7_ : Value) (m8_ : Value), a = putSel a0_ b [(0, 11, .agg #[.int .i64 a0_0, .int .i64 a0_1, .int .i64 a0_2, .int .i64 a0_3]), (1, 12, .agg #[.int .i64 t310, .int .i64 t311, .int .i64 t312]), (2, 13, .agg #[.int .i64 a1_0, .int .i64 a1_1, .int .i64 a1_2, .int .i64 a1_3]), (3, 14, .agg #[.int .i64 t313, .int .i64 t314, .int .i64 t315]), (4, 15, .agg #[.int .i64 a2_0, .int .i64 a2_1, .int .i64 a2_2, .int .i64 a2_3]), (5, 16, .agg #[.int .i64 t316, .int .i64 t317, .int .i64 t318]), (6, 7, m6_), (7, 8, m7_), (8, 9, m8_)] ∧ (w'.heap[gb307]? = some (.cells #[.int .i64 a0_0, .int .i64 a0_1, .int .i64 a0_2, .int .i64 a0_3] 23 (0, 0))) ∧ (w'.heap[gb308]? = some (.cells #[.int .i64 a1_0, .int .i64 a1_1, .int .i64 a1_2, .int .i64 a1_3] 23 (0, 0))) ∧ (w'.heap[gb309]? = some (.cells #[.int .i64 a2_0, .int .i64 a2_1, .int .i64 a2_2, .int .i64 a2_3] 23 (0, 0))) ∧ (Below w.heap.size w w') ∧ (b 6 = true → b 7 = true → gb320 ≠ gb319) ∧ (b 6 = true → b 7 = true → gb319 ≠ gb320) ∧ (b 6 = true → b 8 = true → gb321 ≠ gb319) ∧ (b 6 = true → b 8 = true → gb319 ≠ gb321) ∧ (b 7 = true → b 8 = true → gb321 ≠ gb320) ∧ (b 7 = true → b 8 = true → gb320 ≠ gb321) ∧ (b 6 = true → b 9 = false → w'.heap[gb319]? = some (.cells #[.int .i64 0, .int .i64 0, .int .i64 0] 128 (0, 0))) ∧ (b 6 = true → w.heap.size ≤ gb319) ∧ (b 6 = true → w.heap.size ≤ gb319) ∧ (b 6 = true → gb307 ≠ gb319) ∧ (b 6 = true → gb319 ≠ gb307) ∧ (b 6 = true → gb308 ≠ gb319) ∧ (b 6 = true → gb319 ≠ gb308) ∧ (b 6 = true → gb309 ≠ gb319) ∧ (b 6 = true → gb319 ≠ gb309) ∧ (b 7 = true → b 10 = false → w'.heap[gb320]? = some (.cells #[.int .i64 0, .int .i64 0, .int .i64 0] 128 (0, 0))) ∧ (b 7 = true → w.heap.size ≤ gb320) ∧ (b 7 = true → w.heap.size ≤ gb320) ∧ (b 7 = true → gb307 ≠ gb320) ∧ (b 7 = true → gb320 ≠ gb307) ∧ (b 7 = true → gb308 ≠ gb320) ∧ (b 7 = true → gb320 ≠ gb308) ∧ (b 7 = true → gb309 ≠ gb320) ∧ (b 7 = true → gb320 ≠ gb309) ∧ (b 8 = true → b 11 = false → w'.heap[gb321]? = some (.cells #[.int .i64 0, .int .i64 0, .int .i64 0] 128 (0, 0))) ∧ (b 8 = true → w.heap.size ≤ gb321) ∧ (b 8 = true → w.heap.size ≤ gb321) ∧ (b 8 = true → gb307 ≠ gb321) ∧ (b 8 = true → gb321 ≠ gb307) ∧ (b 8 = true → gb308 ≠ gb321) ∧ (b 8 = true → gb321 ≠ gb308) ∧ (b 8 = true → gb309 ≠ gb321) ∧ (b 8 = true → gb321 ≠ gb309) ∧ (b 9 = true → w'.heap[gb319]? = some (.cells #[.int .i64 t310, .int .i64 t311, .int .i64 t312] 128 (0, 0))) ∧ (b 10 = true → w'.heap[gb320]? = some (.cells #[.int .i64 t313, .int .i64 t314, .int .i64 t315] 128 (0, 0))) ∧ (b 11 = true → w'.heap[gb321]? = some (.cells #[.int .i64 t316, .int .i64 t317, .int .i64 t318] 128 (0, 0))) ∧ (b 6 = true → (m6_ : Value) = .pointer (some ⟨gb319, 0, none⟩)) ∧ (b 7 = true → (m7_ : Value) = .pointer (some ⟨gb320, 0, none⟩)) ∧ (b 8 = true → (m8_ : Value) = .pointer (some ⟨gb321, 0, none⟩))) HT_.out HW_.out (by kernel_rfl) (by kernel_rfl) ?_ ?_ ?_
  ·exact ⟨0, 0, 0, .bool false, .bool false, .bool false, by simp only [putSel, Bool.false_eq_true, if_false], BK307.out, BK308.out, BK309.out, HB.out, fun h_ => absurd h_ (by decide), fun h_ => absurd h_ (by decide), fun h_ => absurd h_ (by decide), fun h_ => absurd h_ (by decide), fun h_ => absurd h_ (by decide), fun h_ => absurd h_ (by decide), fun h_ => absurd h_ (by decide), fun h_ => absurd h_ (by decide), fun h_ => absurd h_ (by decide), fun h_ => absurd h_ (by decide), fun h_ => absurd h_ (by decide), fun h_ => absurd h_ (by decide), fun h_ => absurd h_ (by decide), fun h_ => absurd h_ (by decide), fun h_ => absurd h_ (by decide), fun h_ => absurd h_ (by decide), fun h_ => absurd h_ (by decide), fun h_ => absurd h_ (by decide), fun h_ => absurd h_ (by decide), fun h_ => absurd h_ (by decide), fun h_ => absurd h_ (by decide), fun h_ => absurd h_ (by decide), fun h_ => absurd h_ (by decide), fun h_ => absurd h_ (by decide), fun h_ => absurd h_ (by decide), fun h_ => absurd h_ (by decide), fun h_ => absurd h_ (by decide), fun h_ => absurd h_ (by decide), fun h_ => absurd h_ (by decide), fun h_ => absurd h_ (by decide), fun h_ => absurd h_ (by decide), fun h_ => absurd h_ (by decide), fun h_ => absurd h_ (by decide), fun h_ => absurd h_ (by decide), fun h_ => absurd h_ (by decide), fun h_ => absurd h_ (by decide), fun h_ => absurd h_ (by decide), fun h_ => absurd h_ (by decide), fun h_ => absurd h_ (by decide)⟩
  ·skip
   clear BK307 BK308 BK309 HB
   refine steps_cons ?_ ?_
   ·rintro b a w' ⟨gb319, gb320, gb321, m6_, m7_, m8_, ha, Q_BK307, Q_BK308, Q_BK309, Q_HB, Q_NB320_319, Q_NB319_320, Q_NB321_319, Q_NB319_321, Q_NB321_320, Q_NB320_321, Q_BK319, Q_GW319, Q_GE319, Q_NB307_319, Q_NB319_307, Q_NB308_319, Q_NB319_308, Q_NB309_319, Q_NB319_309, Q_BK320, Q_GW320, Q_GE320, Q_NB307_320, Q_NB320_307, Q_NB308_320, Q_NB320_308, Q_NB309_320, Q_NB320_309, Q_BK321, Q_GW321, Q_GE321, Q_NB307_321, Q_NB321_307, Q_NB308_321, Q_NB321_308, Q_NB309_321, Q_NB321_309, Q_BK319_e9, Q_BK320_e10, Q_BK321_e11, Q_X6_, Q_X7_, Q_X8_⟩ hb_ hon hoff
    refine ⟨_, rfl, fun K hK => ?_⟩
    have e3 : a.tmps[3]? = some (.pointer (some ⟨gb307, 0, none⟩)) := by rw [ha]; exact (putSel_off rfl).trans rfl
    replace ha := Aside0.mk ha
    have BK307 := Aside0.mk Q_BK307
    have BK308 := Aside0.mk Q_BK308
    have BK309 := Aside0.mk Q_BK309
    have HB := Aside0.mk Q_HB
    have hc0_ : w'.cell? ⟨gb307, 0, none⟩ = some (.int .i64 a0_0) := (blk_cell BK307.out 0).trans rfl
    have hc1_ : w'.cell? ⟨gb307, 1, none⟩ = some (.int .i64 a0_1) := (blk_cell BK307.out 1).trans rfl
    have hc2_ : w'.cell? ⟨gb307, 2, none⟩ = some (.int .i64 a0_2) := (blk_cell BK307.out 2).trans rfl
    have hc3_ : w'.cell? ⟨gb307, 3, none⟩ = some (.int .i64 a0_3) := (blk_cell BK307.out 3).trans rfl
    refine value_ (w1 := w') (v := .agg #[.int .i64 a0_0, .int .i64 a0_1, .int .i64 a0_2, .int .i64 a0_3]) (by rfl) rfl ?_ ?_
    ·go_simp
     (try simp only [i64_w])
     try rfl
    refine hK.out _ _ ⟨gb319, gb320, gb321, m6_, m7_, m8_, (by rw [ha.out]; exact putSel_upk 0 hb_ rfl rfl rfl), Q_BK307, Q_BK308, Q_BK309, Q_HB, Q_NB320_319, Q_NB319_320, Q_NB321_319, Q_NB319_321, Q_NB321_320, Q_NB320_321, Q_BK319, Q_GW319, Q_GE319, Q_NB307_319, Q_NB319_307, Q_NB308_319, Q_NB319_308, Q_NB309_319, Q_NB319_309, Q_BK320, Q_GW320, Q_GE320, Q_NB307_320, Q_NB320_307, Q_NB308_320, Q_NB320_308, Q_NB309_320, Q_NB320_309, Q_BK321, Q_GW321, Q_GE321, Q_NB307_321, Q_NB321_307, Q_NB308_321, Q_NB321_308, Q_NB309_321, Q_NB321_309, fun h0_ => absurd ((hoff 9 (by kernel_rfl)).symm.trans h0_) (by decide), fun h0_ => absurd ((hoff 10 (by kernel_rfl)).symm.trans h0_) (by decide), fun h0_ => absurd ((hoff 11 (by kernel_rfl)).symm.trans h0_) (by decide), Q_X6_, Q_X7_, Q_X8_⟩
   refine steps_cons ?_ ?_
   ·rintro b a w' ⟨gb319, gb320, gb321, m6_, m7_, m8_, ha, Q_BK307, Q_BK308, Q_BK309, Q_HB, Q_NB320_319, Q_NB319_320, Q_NB321_319, Q_NB319_321, Q_NB321_320, Q_NB320_321, Q_BK319, Q_GW319, Q_GE319, Q_NB307_319, Q_NB319_307, Q_NB308_319, Q_NB319_308, Q_NB309_319, Q_NB319_309, Q_BK320, Q_GW320, Q_GE320, Q_NB307_320, Q_NB320_307, Q_NB308_320, Q_NB320_308, Q_NB309_320, Q_NB320_309, Q_BK321, Q_GW321, Q_GE321, Q_NB307_321, Q_NB321_307, Q_NB308_321, Q_NB321_308, Q_NB309_321, Q_NB321_309, Q_BK319_e9, Q_BK320_e10, Q_BK321_e11, Q_X6_, Q_X7_, Q_X8_⟩ hb_ hon hoff
    refine ⟨_, rfl, fun K hK => ?_⟩
    have e11 : a.tmps[11]? = some (.agg #[.int .i64 a0_0, .int .i64 a0_1, .int .i64 a0_2, .int .i64 a0_3]) := by rw [ha]; exact putSel_on (e := (0, 11, .agg #[.int .i64 a0_0, .int .i64 a0_1, .int .i64 a0_2, .int .i64 a0_3])) 0 rfl rfl (hon 0 (by kernel_rfl)) rfl
    replace ha := Aside0.mk ha
    have BK307 := Aside0.mk Q_BK307
    have BK308 := Aside0.mk Q_BK308
    have BK309 := Aside0.mk Q_BK309
    have HB := Aside0.mk Q_HB
    refine goes_ Try.func149 (by kernel_rfl) rfl #[.agg #[.int .i64 a0_0, .int .i64 a0_1, .int .i64 a0_2, .int .i64 a0_3]] (by rfl) rfl rfl (by first | (simp only [List.map_toArray, List.map_cons, List.map_nil, Act.eval, Array.getD_eq_getD_getElem?, Option.getD_some, e11]; done) | (simp only [List.map_toArray, List.map_cons, List.map_nil, Act.eval, Array.getD_eq_getD_getElem?, Option.getD_some, e11]; rfl)) ?_
    with_reducible refine (impl_normal.calls a0_0 a0_1 a0_2 a0_3 t310 t311 t312 _ A4.out).mono ?_
    rintro e w81 ⟨rfl, hb⟩
    refine ⟨_, rfl, ?_⟩
    have n0_ := kb BK307 hb
    have n1_ := kb BK308 hb
    have n2_ := kb BK309 hb
    have n3_ := bt HB hb
    have z_BK319 := fun (h0_ : b 6 = true) (h1_ : b 9 = false) => (show w81.heap[gb319]? = some (.cells #[.int .i64 0, .int .i64 0, .int .i64 0] 128 (0, 0)) from by first | exact (blk_below (g := gb319) (o := .cells #[.int .i64 0, .int .i64 0, .int .i64 0] 128 (0, 0)) (by (with_reducible repeat (first | refine blk_drewN ?_ _ | refine blk_drew ?_ | refine blk_alloc ?_ _)); exact (Q_BK319 h0_ h1_)) hb))
    have z_BK320 := fun (h0_ : b 7 = true) (h1_ : b 10 = false) => (show w81.heap[gb320]? = some (.cells #[.int .i64 0, .int .i64 0, .int .i64 0] 128 (0, 0)) from by first | exact (blk_below (g := gb320) (o := .cells #[.int .i64 0, .int .i64 0, .int .i64 0] 128 (0, 0)) (by (with_reducible repeat (first | refine blk_drewN ?_ _ | refine blk_drew ?_ | refine blk_alloc ?_ _)); exact (Q_BK320 h0_ h1_)) hb))
    have z_BK321 := fun (h0_ : b 8 = true) (h1_ : b 11 = false) => (show w81.heap[gb321]? = some (.cells #[.int .i64 0, .int .i64 0, .int .i64 0] 128 (0, 0)) from by first | exact (blk_below (g := gb321) (o := .cells #[.int .i64 0, .int .i64 0, .int .i64 0] 128 (0, 0)) (by (with_reducible repeat (first | refine blk_drewN ?_ _ | refine blk_drew ?_ | refine blk_alloc ?_ _)); exact (Q_BK321 h0_ h1_)) hb))
    clear BK307
    clear BK308
    clear BK309
    clear HB
    have BK307 := n0_
    have BK308 := n1_
    have BK309 := n2_
    have HB := n3_
    clear n0_ n1_ n2_ n3_
    (try clear hb)
    (try clear hb2)
    (try clear hk)
    (try clear hi)
    refine hK.out _ _ ⟨gb319, gb320, gb321, m6_, m7_, m8_, (by rw [ha.out]; exact putSel_upk 1 hb_ rfl rfl rfl), (kbx BK307), (kbx BK308), (kbx BK309), (hbx HB), Q_NB320_319, Q_NB319_320, Q_NB321_319, Q_NB319_321, Q_NB321_320, Q_NB320_321, z_BK319, Q_GW319, Q_GE319, Q_NB307_319, Q_NB319_307, Q_NB308_319, Q_NB319_308, Q_NB309_319, Q_NB319_309, z_BK320, Q_GW320, Q_GE320, Q_NB307_320, Q_NB320_307, Q_NB308_320, Q_NB320_308, Q_NB309_320, Q_NB320_309, z_BK321, Q_GW321, Q_GE321, Q_NB307_321, Q_NB321_307, Q_NB308_321, Q_NB321_308, Q_NB309_321, Q_NB321_309, fun h0_ => absurd ((hoff 9 (by kernel_rfl)).symm.trans h0_) (by decide), fun h0_ => absurd ((hoff 10 (by kernel_rfl)).symm.trans h0_) (by decide), fun h0_ => absurd ((hoff 11 (by kernel_rfl)).symm.trans h0_) (by decide), Q_X6_, Q_X7_, Q_X8_⟩
   refine steps_cons ?_ ?_
   ·rintro b a w' ⟨gb319, gb320, gb321, m6_, m7_, m8_, ha, Q_BK307, Q_BK308, Q_BK309, Q_HB, Q_NB320_319, Q_NB319_320, Q_NB321_319, Q_NB319_321, Q_NB321_320, Q_NB320_321, Q_BK319, Q_GW319, Q_GE319, Q_NB307_319, Q_NB319_307, Q_NB308_319, Q_NB319_308, Q_NB309_319, Q_NB319_309, Q_BK320, Q_GW320, Q_GE320, Q_NB307_320, Q_NB320_307, Q_NB308_320, Q_NB320_308, Q_NB309_320, Q_NB320_309, Q_BK321, Q_GW321, Q_GE321, Q_NB307_321, Q_NB321_307, Q_NB308_321, Q_NB321_308, Q_NB309_321, Q_NB321_309, Q_BK319_e9, Q_BK320_e10, Q_BK321_e11, Q_X6_, Q_X7_, Q_X8_⟩ hb_ hon hoff
    refine ⟨_, rfl, fun K hK => ?_⟩
    have e4 : a.tmps[4]? = some (.pointer (some ⟨gb308, 0, none⟩)) := by rw [ha]; exact (putSel_off rfl).trans rfl
    replace ha := Aside0.mk ha
    have BK307 := Aside0.mk Q_BK307
    have BK308 := Aside0.mk Q_BK308
    have BK309 := Aside0.mk Q_BK309
    have HB := Aside0.mk Q_HB
    have hc0_ : w'.cell? ⟨gb308, 0, none⟩ = some (.int .i64 a1_0) := (blk_cell BK308.out 0).trans rfl
    have hc1_ : w'.cell? ⟨gb308, 1, none⟩ = some (.int .i64 a1_1) := (blk_cell BK308.out 1).trans rfl
    have hc2_ : w'.cell? ⟨gb308, 2, none⟩ = some (.int .i64 a1_2) := (blk_cell BK308.out 2).trans rfl
    have hc3_ : w'.cell? ⟨gb308, 3, none⟩ = some (.int .i64 a1_3) := (blk_cell BK308.out 3).trans rfl
    refine value_ (w1 := w') (v := .agg #[.int .i64 a1_0, .int .i64 a1_1, .int .i64 a1_2, .int .i64 a1_3]) (by rfl) rfl ?_ ?_
    ·go_simp
     (try simp only [i64_w])
     try rfl
    refine hK.out _ _ ⟨gb319, gb320, gb321, m6_, m7_, m8_, (by rw [ha.out]; exact putSel_upk 2 hb_ rfl rfl rfl), Q_BK307, Q_BK308, Q_BK309, Q_HB, Q_NB320_319, Q_NB319_320, Q_NB321_319, Q_NB319_321, Q_NB321_320, Q_NB320_321, Q_BK319, Q_GW319, Q_GE319, Q_NB307_319, Q_NB319_307, Q_NB308_319, Q_NB319_308, Q_NB309_319, Q_NB319_309, Q_BK320, Q_GW320, Q_GE320, Q_NB307_320, Q_NB320_307, Q_NB308_320, Q_NB320_308, Q_NB309_320, Q_NB320_309, Q_BK321, Q_GW321, Q_GE321, Q_NB307_321, Q_NB321_307, Q_NB308_321, Q_NB321_308, Q_NB309_321, Q_NB321_309, fun h0_ => absurd ((hoff 9 (by kernel_rfl)).symm.trans h0_) (by decide), fun h0_ => absurd ((hoff 10 (by kernel_rfl)).symm.trans h0_) (by decide), fun h0_ => absurd ((hoff 11 (by kernel_rfl)).symm.trans h0_) (by decide), Q_X6_, Q_X7_, Q_X8_⟩
   refine steps_cons ?_ ?_
   ·rintro b a w' ⟨gb319, gb320, gb321, m6_, m7_, m8_, ha, Q_BK307, Q_BK308, Q_BK309, Q_HB, Q_NB320_319, Q_NB319_320, Q_NB321_319, Q_NB319_321, Q_NB321_320, Q_NB320_321, Q_BK319, Q_GW319, Q_GE319, Q_NB307_319, Q_NB319_307, Q_NB308_319, Q_NB319_308, Q_NB309_319, Q_NB319_309, Q_BK320, Q_GW320, Q_GE320, Q_NB307_320, Q_NB320_307, Q_NB308_320, Q_NB320_308, Q_NB309_320, Q_NB320_309, Q_BK321, Q_GW321, Q_GE321, Q_NB307_321, Q_NB321_307, Q_NB308_321, Q_NB321_308, Q_NB309_321, Q_NB321_309, Q_BK319_e9, Q_BK320_e10, Q_BK321_e11, Q_X6_, Q_X7_, Q_X8_⟩ hb_ hon hoff
    refine ⟨_, rfl, fun K hK => ?_⟩
    have e13 : a.tmps[13]? = some (.agg #[.int .i64 a1_0, .int .i64 a1_1, .int .i64 a1_2, .int .i64 a1_3]) := by rw [ha]; exact putSel_on (e := (2, 13, .agg #[.int .i64 a1_0, .int .i64 a1_1, .int .i64 a1_2, .int .i64 a1_3])) 2 rfl rfl (hon 2 (by kernel_rfl)) rfl
    replace ha := Aside0.mk ha
    have BK307 := Aside0.mk Q_BK307
    have BK308 := Aside0.mk Q_BK308
    have BK309 := Aside0.mk Q_BK309
    have HB := Aside0.mk Q_HB
    refine goes_ Try.func149 (by kernel_rfl) rfl #[.agg #[.int .i64 a1_0, .int .i64 a1_1, .int .i64 a1_2, .int .i64 a1_3]] (by rfl) rfl rfl (by first | (simp only [List.map_toArray, List.map_cons, List.map_nil, Act.eval, Array.getD_eq_getD_getElem?, Option.getD_some, e13]; done) | (simp only [List.map_toArray, List.map_cons, List.map_nil, Act.eval, Array.getD_eq_getD_getElem?, Option.getD_some, e13]; rfl)) ?_
    with_reducible refine (impl_normal.calls a1_0 a1_1 a1_2 a1_3 t313 t314 t315 _ A5.out).mono ?_
    rintro e w83 ⟨rfl, hb⟩
    refine ⟨_, rfl, ?_⟩
    have n0_ := kb BK307 hb
    have n1_ := kb BK308 hb
    have n2_ := kb BK309 hb
    have n3_ := bt HB hb
    have z_BK319 := fun (h0_ : b 6 = true) (h1_ : b 9 = false) => (show w83.heap[gb319]? = some (.cells #[.int .i64 0, .int .i64 0, .int .i64 0] 128 (0, 0)) from by first | exact (blk_below (g := gb319) (o := .cells #[.int .i64 0, .int .i64 0, .int .i64 0] 128 (0, 0)) (by (with_reducible repeat (first | refine blk_drewN ?_ _ | refine blk_drew ?_ | refine blk_alloc ?_ _)); exact (Q_BK319 h0_ h1_)) hb))
    have z_BK320 := fun (h0_ : b 7 = true) (h1_ : b 10 = false) => (show w83.heap[gb320]? = some (.cells #[.int .i64 0, .int .i64 0, .int .i64 0] 128 (0, 0)) from by first | exact (blk_below (g := gb320) (o := .cells #[.int .i64 0, .int .i64 0, .int .i64 0] 128 (0, 0)) (by (with_reducible repeat (first | refine blk_drewN ?_ _ | refine blk_drew ?_ | refine blk_alloc ?_ _)); exact (Q_BK320 h0_ h1_)) hb))
    have z_BK321 := fun (h0_ : b 8 = true) (h1_ : b 11 = false) => (show w83.heap[gb321]? = some (.cells #[.int .i64 0, .int .i64 0, .int .i64 0] 128 (0, 0)) from by first | exact (blk_below (g := gb321) (o := .cells #[.int .i64 0, .int .i64 0, .int .i64 0] 128 (0, 0)) (by (with_reducible repeat (first | refine blk_drewN ?_ _ | refine blk_drew ?_ | refine blk_alloc ?_ _)); exact (Q_BK321 h0_ h1_)) hb))
    clear BK307
    clear BK308
    clear BK309
    clear HB
    have BK307 := n0_
    have BK308 := n1_
    have BK309 := n2_
    have HB := n3_
    clear n0_ n1_ n2_ n3_
    (try clear hb)
    (try clear hb2)
    (try clear hk)
    (try clear hi)
    refine hK.out _ _ ⟨gb319, gb320, gb321, m6_, m7_, m8_, (by rw [ha.out]; exact putSel_upk 3 hb_ rfl rfl rfl), (kbx BK307), (kbx BK308), (kbx BK309), (hbx HB), Q_NB320_319, Q_NB319_320, Q_NB321_319, Q_NB319_321, Q_NB321_320, Q_NB320_321, z_BK319, Q_GW319, Q_GE319, Q_NB307_319, Q_NB319_307, Q_NB308_319, Q_NB319_308, Q_NB309_319, Q_NB319_309, z_BK320, Q_GW320, Q_GE320, Q_NB307_320, Q_NB320_307, Q_NB308_320, Q_NB320_308, Q_NB309_320, Q_NB320_309, z_BK321, Q_GW321, Q_GE321, Q_NB307_321, Q_NB321_307, Q_NB308_321, Q_NB321_308, Q_NB309_321, Q_NB321_309, fun h0_ => absurd ((hoff 9 (by kernel_rfl)).symm.trans h0_) (by decide), fun h0_ => absurd ((hoff 10 (by kernel_rfl)).symm.trans h0_) (by decide), fun h0_ => absurd ((hoff 11 (by kernel_rfl)).symm.trans h0_) (by decide), Q_X6_, Q_X7_, Q_X8_⟩
   refine steps_cons ?_ ?_
   ·rintro b a w' ⟨gb319, gb320, gb321, m6_, m7_, m8_, ha, Q_BK307, Q_BK308, Q_BK309, Q_HB, Q_NB320_319, Q_NB319_320, Q_NB321_319, Q_NB319_321, Q_NB321_320, Q_NB320_321, Q_BK319, Q_GW319, Q_GE319, Q_NB307_319, Q_NB319_307, Q_NB308_319, Q_NB319_308, Q_NB309_319, Q_NB319_309, Q_BK320, Q_GW320, Q_GE320, Q_NB307_320, Q_NB320_307, Q_NB308_320, Q_NB320_308, Q_NB309_320, Q_NB320_309, Q_BK321, Q_GW321, Q_GE321, Q_NB307_321, Q_NB321_307, Q_NB308_321, Q_NB321_308, Q_NB309_321, Q_NB321_309, Q_BK319_e9, Q_BK320_e10, Q_BK321_e11, Q_X6_, Q_X7_, Q_X8_⟩ hb_ hon hoff
    refine ⟨_, rfl, fun K hK => ?_⟩
    have e5 : a.tmps[5]? = some (.pointer (some ⟨gb309, 0, none⟩)) := by rw [ha]; exact (putSel_off rfl).trans rfl
    replace ha := Aside0.mk ha
    have BK307 := Aside0.mk Q_BK307
    have BK308 := Aside0.mk Q_BK308
    have BK309 := Aside0.mk Q_BK309
    have HB := Aside0.mk Q_HB
    have hc0_ : w'.cell? ⟨gb309, 0, none⟩ = some (.int .i64 a2_0) := (blk_cell BK309.out 0).trans rfl
    have hc1_ : w'.cell? ⟨gb309, 1, none⟩ = some (.int .i64 a2_1) := (blk_cell BK309.out 1).trans rfl
    have hc2_ : w'.cell? ⟨gb309, 2, none⟩ = some (.int .i64 a2_2) := (blk_cell BK309.out 2).trans rfl
    have hc3_ : w'.cell? ⟨gb309, 3, none⟩ = some (.int .i64 a2_3) := (blk_cell BK309.out 3).trans rfl
    refine value_ (w1 := w') (v := .agg #[.int .i64 a2_0, .int .i64 a2_1, .int .i64 a2_2, .int .i64 a2_3]) (by rfl) rfl ?_ ?_
    ·go_simp
     (try simp only [i64_w])
     try rfl
    refine hK.out _ _ ⟨gb319, gb320, gb321, m6_, m7_, m8_, (by rw [ha.out]; exact putSel_upk 4 hb_ rfl rfl rfl), Q_BK307, Q_BK308, Q_BK309, Q_HB, Q_NB320_319, Q_NB319_320, Q_NB321_319, Q_NB319_321, Q_NB321_320, Q_NB320_321, Q_BK319, Q_GW319, Q_GE319, Q_NB307_319, Q_NB319_307, Q_NB308_319, Q_NB319_308, Q_NB309_319, Q_NB319_309, Q_BK320, Q_GW320, Q_GE320, Q_NB307_320, Q_NB320_307, Q_NB308_320, Q_NB320_308, Q_NB309_320, Q_NB320_309, Q_BK321, Q_GW321, Q_GE321, Q_NB307_321, Q_NB321_307, Q_NB308_321, Q_NB321_308, Q_NB309_321, Q_NB321_309, fun h0_ => absurd ((hoff 9 (by kernel_rfl)).symm.trans h0_) (by decide), fun h0_ => absurd ((hoff 10 (by kernel_rfl)).symm.trans h0_) (by decide), fun h0_ => absurd ((hoff 11 (by kernel_rfl)).symm.trans h0_) (by decide), Q_X6_, Q_X7_, Q_X8_⟩
   refine steps_cons ?_ ?_
   ·rintro b a w' ⟨gb319, gb320, gb321, m6_, m7_, m8_, ha, Q_BK307, Q_BK308, Q_BK309, Q_HB, Q_NB320_319, Q_NB319_320, Q_NB321_319, Q_NB319_321, Q_NB321_320, Q_NB320_321, Q_BK319, Q_GW319, Q_GE319, Q_NB307_319, Q_NB319_307, Q_NB308_319, Q_NB319_308, Q_NB309_319, Q_NB319_309, Q_BK320, Q_GW320, Q_GE320, Q_NB307_320, Q_NB320_307, Q_NB308_320, Q_NB320_308, Q_NB309_320, Q_NB320_309, Q_BK321, Q_GW321, Q_GE321, Q_NB307_321, Q_NB321_307, Q_NB308_321, Q_NB321_308, Q_NB309_321, Q_NB321_309, Q_BK319_e9, Q_BK320_e10, Q_BK321_e11, Q_X6_, Q_X7_, Q_X8_⟩ hb_ hon hoff
    refine ⟨_, rfl, fun K hK => ?_⟩
    have e15 : a.tmps[15]? = some (.agg #[.int .i64 a2_0, .int .i64 a2_1, .int .i64 a2_2, .int .i64 a2_3]) := by rw [ha]; exact putSel_on (e := (4, 15, .agg #[.int .i64 a2_0, .int .i64 a2_1, .int .i64 a2_2, .int .i64 a2_3])) 4 rfl rfl (hon 4 (by kernel_rfl)) rfl
    replace ha := Aside0.mk ha
    have BK307 := Aside0.mk Q_BK307
    have BK308 := Aside0.mk Q_BK308
    have BK309 := Aside0.mk Q_BK309
    have HB := Aside0.mk Q_HB
    refine goes_ Try.func149 (by kernel_rfl) rfl #[.agg #[.int .i64 a2_0, .int .i64 a2_1, .int .i64 a2_2, .int .i64 a2_3]] (by rfl) rfl rfl (by first | (simp only [List.map_toArray, List.map_cons, List.map_nil, Act.eval, Array.getD_eq_getD_getElem?, Option.getD_some, e15]; done) | (simp only [List.map_toArray, List.map_cons, List.map_nil, Act.eval, Array.getD_eq_getD_getElem?, Option.getD_some, e15]; rfl)) ?_
    with_reducible refine (impl_normal.calls a2_0 a2_1 a2_2 a2_3 t316 t317 t318 _ A6.out).mono ?_
    rintro e w84 ⟨rfl, hb⟩
    refine ⟨_, rfl, ?_⟩
    have n0_ := kb BK307 hb
    have n1_ := kb BK308 hb
    have n2_ := kb BK309 hb
    have n3_ := bt HB hb
    have z_BK319 := fun (h0_ : b 6 = true) (h1_ : b 9 = false) => (show w84.heap[gb319]? = some (.cells #[.int .i64 0, .int .i64 0, .int .i64 0] 128 (0, 0)) from by first | exact (blk_below (g := gb319) (o := .cells #[.int .i64 0, .int .i64 0, .int .i64 0] 128 (0, 0)) (by (with_reducible repeat (first | refine blk_drewN ?_ _ | refine blk_drew ?_ | refine blk_alloc ?_ _)); exact (Q_BK319 h0_ h1_)) hb))
    have z_BK320 := fun (h0_ : b 7 = true) (h1_ : b 10 = false) => (show w84.heap[gb320]? = some (.cells #[.int .i64 0, .int .i64 0, .int .i64 0] 128 (0, 0)) from by first | exact (blk_below (g := gb320) (o := .cells #[.int .i64 0, .int .i64 0, .int .i64 0] 128 (0, 0)) (by (with_reducible repeat (first | refine blk_drewN ?_ _ | refine blk_drew ?_ | refine blk_alloc ?_ _)); exact (Q_BK320 h0_ h1_)) hb))
    have z_BK321 := fun (h0_ : b 8 = true) (h1_ : b 11 = false) => (show w84.heap[gb321]? = some (.cells #[.int .i64 0, .int .i64 0, .int .i64 0] 128 (0, 0)) from by first | exact (blk_below (g := gb321) (o := .cells #[.int .i64 0, .int .i64 0, .int .i64 0] 128 (0, 0)) (by (with_reducible repeat (first | refine blk_drewN ?_ _ | refine blk_drew ?_ | refine blk_alloc ?_ _)); exact (Q_BK321 h0_ h1_)) hb))
    clear BK307
    clear BK308
    clear BK309
    clear HB
    have BK307 := n0_
    have BK308 := n1_
    have BK309 := n2_
    have HB := n3_
    clear n0_ n1_ n2_ n3_
    (try clear hb)
    (try clear hb2)
    (try clear hk)
    (try clear hi)
    refine hK.out _ _ ⟨gb319, gb320, gb321, m6_, m7_, m8_, (by rw [ha.out]; exact putSel_upk 5 hb_ rfl rfl rfl), (kbx BK307), (kbx BK308), (kbx BK309), (hbx HB), Q_NB320_319, Q_NB319_320, Q_NB321_319, Q_NB319_321, Q_NB321_320, Q_NB320_321, z_BK319, Q_GW319, Q_GE319, Q_NB307_319, Q_NB319_307, Q_NB308_319, Q_NB319_308, Q_NB309_319, Q_NB319_309, z_BK320, Q_GW320, Q_GE320, Q_NB307_320, Q_NB320_307, Q_NB308_320, Q_NB320_308, Q_NB309_320, Q_NB320_309, z_BK321, Q_GW321, Q_GE321, Q_NB307_321, Q_NB321_307, Q_NB308_321, Q_NB321_308, Q_NB309_321, Q_NB321_309, fun h0_ => absurd ((hoff 9 (by kernel_rfl)).symm.trans h0_) (by decide), fun h0_ => absurd ((hoff 10 (by kernel_rfl)).symm.trans h0_) (by decide), fun h0_ => absurd ((hoff 11 (by kernel_rfl)).symm.trans h0_) (by decide), Q_X6_, Q_X7_, Q_X8_⟩
   refine steps_cons ?_ ?_
   ·rintro b a w' ⟨gb319, gb320, gb321, m6_, m7_, m8_, ha, Q_BK307, Q_BK308, Q_BK309, Q_HB, Q_NB320_319, Q_NB319_320, Q_NB321_319, Q_NB319_321, Q_NB321_320, Q_NB320_321, Q_BK319, Q_GW319, Q_GE319, Q_NB307_319, Q_NB319_307, Q_NB308_319, Q_NB319_308, Q_NB309_319, Q_NB319_309, Q_BK320, Q_GW320, Q_GE320, Q_NB307_320, Q_NB320_307, Q_NB308_320, Q_NB320_308, Q_NB309_320, Q_NB320_309, Q_BK321, Q_GW321, Q_GE321, Q_NB307_321, Q_NB321_307, Q_NB308_321, Q_NB321_308, Q_NB309_321, Q_NB321_309, Q_BK319_e9, Q_BK320_e10, Q_BK321_e11, Q_X6_, Q_X7_, Q_X8_⟩ hb_ hon hoff
    refine ⟨_, rfl, fun K hK => ?_⟩
    replace ha := Aside0.mk ha
    have BK307 := Aside0.mk Q_BK307
    have BK308 := Aside0.mk Q_BK308
    have BK309 := Aside0.mk Q_BK309
    have HB := Aside0.mk Q_HB
    refine box_step ?hg (N := 7) ?hd (cs := #[.int .i64 0, .int .i64 0, .int .i64 0]) (t := 128) ?hr ?_; (case hd => rfl); (case hg => rfl); (case hr => first | (go_simp; done) | (go_simp; rfl))
    intro gb319 hg w81 hbox hb
    have n0_ := kb BK307 hb
    have n1_ := kb BK308 hb
    have n2_ := kb BK309 hb
    have n3_ := bt HB hb
    have n4_ := Aside0.mk (hbox)
    have n5_ := gx hg HB
    have n6_ := gx hg HB
    have n7_ := nl hg BK307
    have n8_ := nr hg BK307
    have n9_ := nl hg BK308
    have n10_ := nr hg BK308
    have n11_ := nl hg BK309
    have n12_ := nr hg BK309
    have z_NB320_319 := fun (h0_ : up b 6 6 = true) (h1_ : up b 6 7 = true) => (show gb320 ≠ gb319 from (by cases hq_ : b 10 with | false => exact ((by rw [hg]; exact Nat.ne_of_lt (blk_lt (g := gb320) (by (with_reducible repeat (first | refine blk_drewN ?_ _ | refine blk_drew ?_ | refine blk_alloc ?_ _)); exact (Q_BK320 h1_ hq_))) : gb320 ≠ gb319)) | true => exact ((by rw [hg]; exact Nat.ne_of_lt (blk_lt (g := gb320) (by (with_reducible repeat (first | refine blk_drewN ?_ _ | refine blk_drew ?_ | refine blk_alloc ?_ _)); exact (Q_BK320_e10 hq_))) : gb320 ≠ gb319))))
    have z_NB319_320 := fun (h0_ : up b 6 6 = true) (h1_ : up b 6 7 = true) => (show gb319 ≠ gb320 from (by cases hq_ : b 10 with | false => exact ((by rw [hg]; exact Nat.ne_of_gt (blk_lt (g := gb320) (by (with_reducible repeat (first | refine blk_drewN ?_ _ | refine blk_drew ?_ | refine blk_alloc ?_ _)); exact (Q_BK320 h1_ hq_))) : gb319 ≠ gb320)) | true => exact ((by rw [hg]; exact Nat.ne_of_gt (blk_lt (g := gb320) (by (with_reducible repeat (first | refine blk_drewN ?_ _ | refine blk_drew ?_ | refine blk_alloc ?_ _)); exact (Q_BK320_e10 hq_))) : gb319 ≠ gb320))))
    have z_NB321_319 := fun (h0_ : up b 6 6 = true) (h1_ : up b 6 8 = true) => (show gb321 ≠ gb319 from (by cases hq_ : b 11 with | false => exact ((by rw [hg]; exact Nat.ne_of_lt (blk_lt (g := gb321) (by (with_reducible repeat (first | refine blk_drewN ?_ _ | refine blk_drew ?_ | refine blk_alloc ?_ _)); exact (Q_BK321 h1_ hq_))) : gb321 ≠ gb319)) | true => exact ((by rw [hg]; exact Nat.ne_of_lt (blk_lt (g := gb321) (by (with_reducible repeat (first | refine blk_drewN ?_ _ | refine blk_drew ?_ | refine blk_alloc ?_ _)); exact (Q_BK321_e11 hq_))) : gb321 ≠ gb319))))
    have z_NB319_321 := fun (h0_ : up b 6 6 = true) (h1_ : up b 6 8 = true) => (show gb319 ≠ gb321 from (by cases hq_ : b 11 with | false => exact ((by rw [hg]; exact Nat.ne_of_gt (blk_lt (g := gb321) (by (with_reducible repeat (first | refine blk_drewN ?_ _ | refine blk_drew ?_ | refine blk_alloc ?_ _)); exact (Q_BK321 h1_ hq_))) : gb319 ≠ gb321)) | true => exact ((by rw [hg]; exact Nat.ne_of_gt (blk_lt (g := gb321) (by (with_reducible repeat (first | refine blk_drewN ?_ _ | refine blk_drew ?_ | refine blk_alloc ?_ _)); exact (Q_BK321_e11 hq_))) : gb319 ≠ gb321))))
    have z_BK320 := fun (h0_ : b 7 = true) (h1_ : b 10 = false) => (show w81.heap[gb320]? = some (.cells #[.int .i64 0, .int .i64 0, .int .i64 0] 128 (0, 0)) from by first | exact (blk_below (g := gb320) (o := .cells #[.int .i64 0, .int .i64 0, .int .i64 0] 128 (0, 0)) (by (with_reducible repeat (first | refine blk_drewN ?_ _ | refine blk_drew ?_ | refine blk_alloc ?_ _)); exact (Q_BK320 h0_ h1_)) hb))
    have z_BK321 := fun (h0_ : b 8 = true) (h1_ : b 11 = false) => (show w81.heap[gb321]? = some (.cells #[.int .i64 0, .int .i64 0, .int .i64 0] 128 (0, 0)) from by first | exact (blk_below (g := gb321) (o := .cells #[.int .i64 0, .int .i64 0, .int .i64 0] 128 (0, 0)) (by (with_reducible repeat (first | refine blk_drewN ?_ _ | refine blk_drew ?_ | refine blk_alloc ?_ _)); exact (Q_BK321 h0_ h1_)) hb))
    clear BK307
    clear BK308
    clear BK309
    clear HB
    have BK307 := n0_
    have BK308 := n1_
    have BK309 := n2_
    have HB := n3_
    have BK319 := n4_
    have GW319 := n5_
    have GE319 := n6_
    have NB307_319 := n7_
    have NB319_307 := n8_
    have NB308_319 := n9_
    have NB319_308 := n10_
    have NB309_319 := n11_
    have NB319_309 := n12_
    clear n0_ n1_ n2_ n3_ n4_ n5_ n6_ n7_ n8_ n9_ n10_ n11_ n12_
    clear hb hbox hg
    refine hK.out _ _ ⟨gb319, gb320, gb321, (.pointer (some ⟨gb319, 0, none⟩)), m7_, m8_, (by rw [ha.out]; exact putSel_upk 6 hb_ rfl rfl rfl), (kbx BK307), (kbx BK308), (kbx BK309), (hbx HB), z_NB320_319, z_NB319_320, z_NB321_319, z_NB319_321, Q_NB321_320, Q_NB320_321, fun _ _ => (kbx BK319), fun _ => GW319.out, fun _ => GE319.out, fun _ => NB307_319.out, fun _ => NB319_307.out, fun _ => NB308_319.out, fun _ => NB319_308.out, fun _ => NB309_319.out, fun _ => NB319_309.out, z_BK320, Q_GW320, Q_GE320, Q_NB307_320, Q_NB320_307, Q_NB308_320, Q_NB320_308, Q_NB309_320, Q_NB320_309, z_BK321, Q_GW321, Q_GE321, Q_NB307_321, Q_NB321_307, Q_NB308_321, Q_NB321_308, Q_NB309_321, Q_NB321_309, fun h0_ => absurd ((hoff 9 (by kernel_rfl)).symm.trans h0_) (by decide), fun h0_ => absurd ((hoff 10 (by kernel_rfl)).symm.trans h0_) (by decide), fun h0_ => absurd ((hoff 11 (by kernel_rfl)).symm.trans h0_) (by decide), fun _ => rfl, Q_X7_, Q_X8_⟩
   refine steps_cons ?_ ?_
   ·rintro b a w' ⟨gb319, gb320, gb321, m6_, m7_, m8_, ha, Q_BK307, Q_BK308, Q_BK309, Q_HB, Q_NB320_319, Q_NB319_320, Q_NB321_319, Q_NB319_321, Q_NB321_320, Q_NB320_321, Q_BK319, Q_GW319, Q_GE319, Q_NB307_319, Q_NB319_307, Q_NB308_319, Q_NB319_308, Q_NB309_319, Q_NB319_309, Q_BK320, Q_GW320, Q_GE320, Q_NB307_320, Q_NB320_307, Q_NB308_320, Q_NB320_308, Q_NB309_320, Q_NB320_309, Q_BK321, Q_GW321, Q_GE321, Q_NB307_321, Q_NB321_307, Q_NB308_321, Q_NB321_308, Q_NB309_321, Q_NB321_309, Q_BK319_e9, Q_BK320_e10, Q_BK321_e11, Q_X6_, Q_X7_, Q_X8_⟩ hb_ hon hoff
    refine ⟨_, rfl, fun K hK => ?_⟩
    replace ha := Aside0.mk ha
    have BK307 := Aside0.mk Q_BK307
    have BK308 := Aside0.mk Q_BK308
    have BK309 := Aside0.mk Q_BK309
    have HB := Aside0.mk Q_HB
    refine box_step ?hg (N := 8) ?hd (cs := #[.int .i64 0, .int .i64 0, .int .i64 0]) (t := 128) ?hr ?_; (case hd => rfl); (case hg => rfl); (case hr => first | (go_simp; done) | (go_simp; rfl))
    intro gb320 hg w81 hbox hb
    have n0_ := kb BK307 hb
    have n1_ := kb BK308 hb
    have n2_ := kb BK309 hb
    have n3_ := bt HB hb
    have n4_ := Aside0.mk (hbox)
    have n5_ := gx hg HB
    have n6_ := gx hg HB
    have n7_ := nl hg BK307
    have n8_ := nr hg BK307
    have n9_ := nl hg BK308
    have n10_ := nr hg BK308
    have n11_ := nl hg BK309
    have n12_ := nr hg BK309
    have z_NB320_319 := fun (h0_ : up b 7 6 = true) (h1_ : up b 7 7 = true) => (show gb320 ≠ gb319 from (by cases hq_ : b 9 with | false => exact ((by rw [hg]; exact Nat.ne_of_gt (blk_lt (g := gb319) (by (with_reducible repeat (first | refine blk_drewN ?_ _ | refine blk_drew ?_ | refine blk_alloc ?_ _)); exact (Q_BK319 h0_ hq_))) : gb320 ≠ gb319)) | true => exact ((by rw [hg]; exact Nat.ne_of_gt (blk_lt (g := gb319) (by (with_reducible repeat (first | refine blk_drewN ?_ _ | refine blk_drew ?_ | refine blk_alloc ?_ _)); exact (Q_BK319_e9 hq_))) : gb320 ≠ gb319))))
    have z_NB319_320 := fun (h0_ : up b 7 6 = true) (h1_ : up b 7 7 = true) => (show gb319 ≠ gb320 from (by cases hq_ : b 9 with | false => exact ((by rw [hg]; exact Nat.ne_of_lt (blk_lt (g := gb319) (by (with_reducible repeat (first | refine blk_drewN ?_ _ | refine blk_drew ?_ | refine blk_alloc ?_ _)); exact (Q_BK319 h0_ hq_))) : gb319 ≠ gb320)) | true => exact ((by rw [hg]; exact Nat.ne_of_lt (blk_lt (g := gb319) (by (with_reducible repeat (first | refine blk_drewN ?_ _ | refine blk_drew ?_ | refine blk_alloc ?_ _)); exact (Q_BK319_e9 hq_))) : gb319 ≠ gb320))))
    have z_NB321_320 := fun (h0_ : up b 7 7 = true) (h1_ : up b 7 8 = true) => (show gb321 ≠ gb320 from (by cases hq_ : b 11 with | false => exact ((by rw [hg]; exact Nat.ne_of_lt (blk_lt (g := gb321) (by (with_reducible repeat (first | refine blk_drewN ?_ _ | refine blk_drew ?_ | refine blk_alloc ?_ _)); exact (Q_BK321 h1_ hq_))) : gb321 ≠ gb320)) | true => exact ((by rw [hg]; exact Nat.ne_of_lt (blk_lt (g := gb321) (by (with_reducible repeat (first | refine blk_drewN ?_ _ | refine blk_drew ?_ | refine blk_alloc ?_ _)); exact (Q_BK321_e11 hq_))) : gb321 ≠ gb320))))
    have z_NB320_321 := fun (h0_ : up b 7 7 = true) (h1_ : up b 7 8 = true) => (show gb320 ≠ gb321 from (by cases hq_ : b 11 with | false => exact ((by rw [hg]; exact Nat.ne_of_gt (blk_lt (g := gb321) (by (with_reducible repeat (first | refine blk_drewN ?_ _ | refine blk_drew ?_ | refine blk_alloc ?_ _)); exact (Q_BK321 h1_ hq_))) : gb320 ≠ gb321)) | true => exact ((by rw [hg]; exact Nat.ne_of_gt (blk_lt (g := gb321) (by (with_reducible repeat (first | refine blk_drewN ?_ _ | refine blk_drew ?_ | refine blk_alloc ?_ _)); exact (Q_BK321_e11 hq_))) : gb320 ≠ gb321))))
    have z_BK319 := fun (h0_ : b 6 = true) (h1_ : b 9 = false) => (show w81.heap[gb319]? = some (.cells #[.int .i64 0, .int .i64 0, .int .i64 0] 128 (0, 0)) from by first | exact (blk_below (g := gb319) (o := .cells #[.int .i64 0, .int .i64 0, .int .i64 0] 128 (0, 0)) (by (with_reducible repeat (first | refine blk_drewN ?_ _ | refine blk_drew ?_ | refine blk_alloc ?_ _)); exact (Q_BK319 h0_ h1_)) hb))
    have z_BK321 := fun (h0_ : b 8 = true) (h1_ : b 11 = false) => (show w81.heap[gb321]? = some (.cells #[.int .i64 0, .int .i64 0, .int .i64 0] 128 (0, 0)) from by first | exact (blk_below (g := gb321) (o := .cells #[.int .i64 0, .int .i64 0, .int .i64 0] 128 (0, 0)) (by (with_reducible repeat (first | refine blk_drewN ?_ _ | refine blk_drew ?_ | refine blk_alloc ?_ _)); exact (Q_BK321 h0_ h1_)) hb))
    clear BK307
    clear BK308
    clear BK309
    clear HB
    have BK307 := n0_
    have BK308 := n1_
    have BK309 := n2_
    have HB := n3_
    have BK320 := n4_
    have GW320 := n5_
    have GE320 := n6_
    have NB307_320 := n7_
    have NB320_307 := n8_
    have NB308_320 := n9_
    have NB320_308 := n10_
    have NB309_320 := n11_
    have NB320_309 := n12_
    clear n0_ n1_ n2_ n3_ n4_ n5_ n6_ n7_ n8_ n9_ n10_ n11_ n12_
    clear hb hbox hg
    refine hK.out _ _ ⟨gb319, gb320, gb321, m6_, (.pointer (some ⟨gb320, 0, none⟩)), m8_, (by rw [ha.out]; exact putSel_upk 7 hb_ rfl rfl rfl), (kbx BK307), (kbx BK308), (kbx BK309), (hbx HB), z_NB320_319, z_NB319_320, Q_NB321_319, Q_NB319_321, z_NB321_320, z_NB320_321, z_BK319, Q_GW319, Q_GE319, Q_NB307_319, Q_NB319_307, Q_NB308_319, Q_NB319_308, Q_NB309_319, Q_NB319_309, fun _ _ => (kbx BK320), fun _ => GW320.out, fun _ => GE320.out, fun _ => NB307_320.out, fun _ => NB320_307.out, fun _ => NB308_320.out, fun _ => NB320_308.out, fun _ => NB309_320.out, fun _ => NB320_309.out, z_BK321, Q_GW321, Q_GE321, Q_NB307_321, Q_NB321_307, Q_NB308_321, Q_NB321_308, Q_NB309_321, Q_NB321_309, fun h0_ => absurd ((hoff 9 (by kernel_rfl)).symm.trans h0_) (by decide), fun h0_ => absurd ((hoff 10 (by kernel_rfl)).symm.trans h0_) (by decide), fun h0_ => absurd ((hoff 11 (by kernel_rfl)).symm.trans h0_) (by decide), Q_X6_, fun _ => rfl, Q_X8_⟩
   refine steps_cons ?_ ?_
   ·rintro b a w' ⟨gb319, gb320, gb321, m6_, m7_, m8_, ha, Q_BK307, Q_BK308, Q_BK309, Q_HB, Q_NB320_319, Q_NB319_320, Q_NB321_319, Q_NB319_321, Q_NB321_320, Q_NB320_321, Q_BK319, Q_GW319, Q_GE319, Q_NB307_319, Q_NB319_307, Q_NB308_319, Q_NB319_308, Q_NB309_319, Q_NB319_309, Q_BK320, Q_GW320, Q_GE320, Q_NB307_320, Q_NB320_307, Q_NB308_320, Q_NB320_308, Q_NB309_320, Q_NB320_309, Q_BK321, Q_GW321, Q_GE321, Q_NB307_321, Q_NB321_307, Q_NB308_321, Q_NB321_308, Q_NB309_321, Q_NB321_309, Q_BK319_e9, Q_BK320_e10, Q_BK321_e11, Q_X6_, Q_X7_, Q_X8_⟩ hb_ hon hoff
    refine ⟨_, rfl, fun K hK => ?_⟩
    replace ha := Aside0.mk ha
    have BK307 := Aside0.mk Q_BK307
    have BK308 := Aside0.mk Q_BK308
    have BK309 := Aside0.mk Q_BK309
    have HB := Aside0.mk Q_HB
    refine box_step ?hg (N := 9) ?hd (cs := #[.int .i64 0, .int .i64 0, .int .i64 0]) (t := 128) ?hr ?_; (case hd => rfl); (case hg => rfl); (case hr => first | (go_simp; done) | (go_simp; rfl))
    intro gb321 hg w81 hbox hb
    have n0_ := kb BK307 hb
    have n1_ := kb BK308 hb
    have n2_ := kb BK309 hb
    have n3_ := bt HB hb
    have n4_ := Aside0.mk (hbox)
    have n5_ := gx hg HB
    have n6_ := gx hg HB
    have n7_ := nl hg BK307
    have n8_ := nr hg BK307
    have n9_ := nl hg BK308
    have n10_ := nr hg BK308
    have n11_ := nl hg BK309
    have n12_ := nr hg BK309
    have z_NB321_319 := fun (h0_ : up b 8 6 = true) (h1_ : up b 8 8 = true) => (show gb321 ≠ gb319 from (by cases hq_ : b 9 with | false => exact ((by rw [hg]; exact Nat.ne_of_gt (blk_lt (g := gb319) (by (with_reducible repeat (first | refine blk_drewN ?_ _ | refine blk_drew ?_ | refine blk_alloc ?_ _)); exact (Q_BK319 h0_ hq_))) : gb321 ≠ gb319)) | true => exact ((by rw [hg]; exact Nat.ne_of_gt (blk_lt (g := gb319) (by (with_reducible repeat (first | refine blk_drewN ?_ _ | refine blk_drew ?_ | refine blk_alloc ?_ _)); exact (Q_BK319_e9 hq_))) : gb321 ≠ gb319))))
    have z_NB319_321 := fun (h0_ : up b 8 6 = true) (h1_ : up b 8 8 = true) => (show gb319 ≠ gb321 from (by cases hq_ : b 9 with | false => exact ((by rw [hg]; exact Nat.ne_of_lt (blk_lt (g := gb319) (by (with_reducible repeat (first | refine blk_drewN ?_ _ | refine blk_drew ?_ | refine blk_alloc ?_ _)); exact (Q_BK319 h0_ hq_))) : gb319 ≠ gb321)) | true => exact ((by rw [hg]; exact Nat.ne_of_lt (blk_lt (g := gb319) (by (with_reducible repeat (first | refine blk_drewN ?_ _ | refine blk_drew ?_ | refine blk_alloc ?_ _)); exact (Q_BK319_e9 hq_))) : gb319 ≠ gb321))))
    have z_NB321_320 := fun (h0_ : up b 8 7 = true) (h1_ : up b 8 8 = true) => (show gb321 ≠ gb320 from (by cases hq_ : b 10 with | false => exact ((by rw [hg]; exact Nat.ne_of_gt (blk_lt (g := gb320) (by (with_reducible repeat (first | refine blk_drewN ?_ _ | refine blk_drew ?_ | refine blk_alloc ?_ _)); exact (Q_BK320 h0_ hq_))) : gb321 ≠ gb320)) | true => exact ((by rw [hg]; exact Nat.ne_of_gt (blk_lt (g := gb320) (by (with_reducible repeat (first | refine blk_drewN ?_ _ | refine blk_drew ?_ | refine blk_alloc ?_ _)); exact (Q_BK320_e10 hq_))) : gb321 ≠ gb320))))
    have z_NB320_321 := fun (h0_ : up b 8 7 = true) (h1_ : up b 8 8 = true) => (show gb320 ≠ gb321 from (by cases hq_ : b 10 with | false => exact ((by rw [hg]; exact Nat.ne_of_lt (blk_lt (g := gb320) (by (with_reducible repeat (first | refine blk_drewN ?_ _ | refine blk_drew ?_ | refine blk_alloc ?_ _)); exact (Q_BK320 h0_ hq_))) : gb320 ≠ gb321)) | true => exact ((by rw [hg]; exact Nat.ne_of_lt (blk_lt (g := gb320) (by (with_reducible repeat (first | refine blk_drewN ?_ _ | refine blk_drew ?_ | refine blk_alloc ?_ _)); exact (Q_BK320_e10 hq_))) : gb320 ≠ gb321))))
    have z_BK319 := fun (h0_ : b 6 = true) (h1_ : b 9 = false) => (show w81.heap[gb319]? = some (.cells #[.int .i64 0, .int .i64 0, .int .i64 0] 128 (0, 0)) from by first | exact (blk_below (g := gb319) (o := .cells #[.int .i64 0, .int .i64 0, .int .i64 0] 128 (0, 0)) (by (with_reducible repeat (first | refine blk_drewN ?_ _ | refine blk_drew ?_ | refine blk_alloc ?_ _)); exact (Q_BK319 h0_ h1_)) hb))
    have z_BK320 := fun (h0_ : b 7 = true) (h1_ : b 10 = false) => (show w81.heap[gb320]? = some (.cells #[.int .i64 0, .int .i64 0, .int .i64 0] 128 (0, 0)) from by first | exact (blk_below (g := gb320) (o := .cells #[.int .i64 0, .int .i64 0, .int .i64 0] 128 (0, 0)) (by (with_reducible repeat (first | refine blk_drewN ?_ _ | refine blk_drew ?_ | refine blk_alloc ?_ _)); exact (Q_BK320 h0_ h1_)) hb))
    clear BK307
    clear BK308
    clear BK309
    clear HB
    have BK307 := n0_
    have BK308 := n1_
    have BK309 := n2_
    have HB := n3_
    have BK321 := n4_
    have GW321 := n5_
    have GE321 := n6_
    have NB307_321 := n7_
    have NB321_307 := n8_
    have NB308_321 := n9_
    have NB321_308 := n10_
    have NB309_321 := n11_
    have NB321_309 := n12_
    clear n0_ n1_ n2_ n3_ n4_ n5_ n6_ n7_ n8_ n9_ n10_ n11_ n12_
    clear hb hbox hg
    refine hK.out _ _ ⟨gb319, gb320, gb321, m6_, m7_, (.pointer (some ⟨gb321, 0, none⟩)), (by rw [ha.out]; exact putSel_upk 8 hb_ rfl rfl rfl), (kbx BK307), (kbx BK308), (kbx BK309), (hbx HB), Q_NB320_319, Q_NB319_320, z_NB321_319, z_NB319_321, z_NB321_320, z_NB320_321, z_BK319, Q_GW319, Q_GE319, Q_NB307_319, Q_NB319_307, Q_NB308_319, Q_NB319_308, Q_NB309_319, Q_NB319_309, z_BK320, Q_GW320, Q_GE320, Q_NB307_320, Q_NB320_307, Q_NB308_320, Q_NB320_308, Q_NB309_320, Q_NB320_309, fun _ _ => (kbx BK321), fun _ => GW321.out, fun _ => GE321.out, fun _ => NB307_321.out, fun _ => NB321_307.out, fun _ => NB308_321.out, fun _ => NB321_308.out, fun _ => NB309_321.out, fun _ => NB321_309.out, fun h0_ => absurd ((hoff 9 (by kernel_rfl)).symm.trans h0_) (by decide), fun h0_ => absurd ((hoff 10 (by kernel_rfl)).symm.trans h0_) (by decide), fun h0_ => absurd ((hoff 11 (by kernel_rfl)).symm.trans h0_) (by decide), Q_X6_, Q_X7_, fun _ => rfl⟩
   refine steps_cons ?_ ?_
   ·rintro b a w' ⟨gb319, gb320, gb321, m6_, m7_, m8_, ha, Q_BK307, Q_BK308, Q_BK309, Q_HB, Q_NB320_319, Q_NB319_320, Q_NB321_319, Q_NB319_321, Q_NB321_320, Q_NB320_321, Q_BK319, Q_GW319, Q_GE319, Q_NB307_319, Q_NB319_307, Q_NB308_319, Q_NB319_308, Q_NB309_319, Q_NB319_309, Q_BK320, Q_GW320, Q_GE320, Q_NB307_320, Q_NB320_307, Q_NB308_320, Q_NB320_308, Q_NB309_320, Q_NB320_309, Q_BK321, Q_GW321, Q_GE321, Q_NB307_321, Q_NB321_307, Q_NB308_321, Q_NB321_308, Q_NB309_321, Q_NB321_309, Q_BK319_e9, Q_BK320_e10, Q_BK321_e11, Q_X6_, Q_X7_, Q_X8_⟩ hb_ hon hoff
    refine ⟨_, rfl, fun K hK => ?_⟩
    have e7 : a.tmps[7]? = some (m6_) := by rw [ha]; exact putSel_on (e := (6, 7, m6_)) 6 rfl rfl (hon 6 (by kernel_rfl)) rfl
    rw [Q_X6_ (hon 6 (by kernel_rfl))] at e7
    have e12 : a.tmps[12]? = some (.agg #[.int .i64 t310, .int .i64 t311, .int .i64 t312]) := by rw [ha]; exact putSel_on (e := (1, 12, .agg #[.int .i64 t310, .int .i64 t311, .int .i64 t312])) 1 rfl rfl (hon 1 (by kernel_rfl)) rfl
    replace ha := Aside0.mk ha
    have BK307 := Aside0.mk Q_BK307
    have BK308 := Aside0.mk Q_BK308
    have BK309 := Aside0.mk Q_BK309
    have HB := Aside0.mk Q_HB
    have NB320_319 := Aside0.mk (Q_NB320_319 (hon 6 (by kernel_rfl)) (hon 7 (by kernel_rfl)))
    have NB319_320 := Aside0.mk (Q_NB319_320 (hon 6 (by kernel_rfl)) (hon 7 (by kernel_rfl)))
    have NB321_319 := Aside0.mk (Q_NB321_319 (hon 6 (by kernel_rfl)) (hon 8 (by kernel_rfl)))
    have NB319_321 := Aside0.mk (Q_NB319_321 (hon 6 (by kernel_rfl)) (hon 8 (by kernel_rfl)))
    have NB321_320 := Aside0.mk (Q_NB321_320 (hon 7 (by kernel_rfl)) (hon 8 (by kernel_rfl)))
    have NB320_321 := Aside0.mk (Q_NB320_321 (hon 7 (by kernel_rfl)) (hon 8 (by kernel_rfl)))
    have BK319 := Aside0.mk (Q_BK319 (hon 6 (by kernel_rfl)) hb_)
    have GW319 := Aside0.mk (Q_GW319 (hon 6 (by kernel_rfl)))
    have GE319 := Aside0.mk (Q_GE319 (hon 6 (by kernel_rfl)))
    have NB307_319 := Aside0.mk (Q_NB307_319 (hon 6 (by kernel_rfl)))
    have NB319_307 := Aside0.mk (Q_NB319_307 (hon 6 (by kernel_rfl)))
    have NB308_319 := Aside0.mk (Q_NB308_319 (hon 6 (by kernel_rfl)))
    have NB319_308 := Aside0.mk (Q_NB319_308 (hon 6 (by kernel_rfl)))
    have NB309_319 := Aside0.mk (Q_NB309_319 (hon 6 (by kernel_rfl)))
    have NB319_309 := Aside0.mk (Q_NB319_309 (hon 6 (by kernel_rfl)))
    have BK320 := Aside0.mk (Q_BK320 (hon 7 (by kernel_rfl)) (hoff 10 (by kernel_rfl)))
    have GW320 := Aside0.mk (Q_GW320 (hon 7 (by kernel_rfl)))
    have GE320 := Aside0.mk (Q_GE320 (hon 7 (by kernel_rfl)))
    have NB307_320 := Aside0.mk (Q_NB307_320 (hon 7 (by kernel_rfl)))
    have NB320_307 := Aside0.mk (Q_NB320_307 (hon 7 (by kernel_rfl)))
    have NB308_320 := Aside0.mk (Q_NB308_320 (hon 7 (by kernel_rfl)))
    have NB320_308 := Aside0.mk (Q_NB320_308 (hon 7 (by kernel_rfl)))
    have NB309_320 := Aside0.mk (Q_NB309_320 (hon 7 (by kernel_rfl)))
    have NB320_309 := Aside0.mk (Q_NB320_309 (hon 7 (by kernel_rfl)))
    have BK321 := Aside0.mk (Q_BK321 (hon 8 (by kernel_rfl)) (hoff 11 (by kernel_rfl)))
    have GW321 := Aside0.mk (Q_GW321 (hon 8 (by kernel_rfl)))
    have GE321 := Aside0.mk (Q_GE321 (hon 8 (by kernel_rfl)))
    have NB307_321 := Aside0.mk (Q_NB307_321 (hon 8 (by kernel_rfl)))
    have NB321_307 := Aside0.mk (Q_NB321_307 (hon 8 (by kernel_rfl)))
    have NB308_321 := Aside0.mk (Q_NB308_321 (hon 8 (by kernel_rfl)))
    have NB321_308 := Aside0.mk (Q_NB321_308 (hon 8 (by kernel_rfl)))
    have NB309_321 := Aside0.mk (Q_NB309_321 (hon 8 (by kernel_rfl)))
    have NB321_309 := Aside0.mk (Q_NB321_309 (hon 8 (by kernel_rfl)))
    have hs88 : w'.cell? ⟨gb319, 0, none⟩ = some (.int .i64 0) := (blk_cell BK319.out 0).trans rfl
    have hfs88 := blk_frozen BK319.out 0
    have hns88_0 := NB307_319.out
    have hns88_1 := NB308_319.out
    have hns88_2 := NB309_319.out
    have hns88_4 := NB320_319.out
    have hns88_5 := NB321_319.out
    have hms88_0 := NB319_307.out
    have hms88_1 := NB319_308.out
    have hms88_2 := NB319_309.out
    have hms88_4 := NB319_320.out
    have hms88_5 := NB319_321.out
    have hs89 : w'.cell? ⟨gb319, 1, none⟩ = some (.int .i64 0) := (blk_cell BK319.out 1).trans rfl
    have hfs89 := blk_frozen BK319.out 1
    have hns89_0 := NB307_319.out
    have hns89_1 := NB308_319.out
    have hns89_2 := NB309_319.out
    have hns89_4 := NB320_319.out
    have hns89_5 := NB321_319.out
    have hms89_0 := NB319_307.out
    have hms89_1 := NB319_308.out
    have hms89_2 := NB319_309.out
    have hms89_4 := NB319_320.out
    have hms89_5 := NB319_321.out
    have hs90 : w'.cell? ⟨gb319, 2, none⟩ = some (.int .i64 0) := (blk_cell BK319.out 2).trans rfl
    have hfs90 := blk_frozen BK319.out 2
    have hns90_0 := NB307_319.out
    have hns90_1 := NB308_319.out
    have hns90_2 := NB309_319.out
    have hns90_4 := NB320_319.out
    have hns90_5 := NB321_319.out
    have hms90_0 := NB319_307.out
    have hms90_1 := NB319_308.out
    have hms90_2 := NB319_309.out
    have hms90_4 := NB319_320.out
    have hms90_5 := NB319_321.out
    refine skip_ (w1 := ?_) (by rfl) rfl ?_ ?_
    rotate_left
    ·go_simp
     rfl
    refine hK.out _ _ ⟨gb319, gb320, gb321, m6_, m7_, m8_, (by rw [ha.out]; exact putSel_none (v := undef) rfl), (by (with_reducible repeat (first | refine blk_drewN ?_ _ | refine blk_drew ?_ | refine blk_alloc ?_ _)); refine blk_far ?_ NB307_319.out _; (with_reducible repeat (first | refine blk_drewN ?_ _ | refine blk_drew ?_ | refine blk_alloc ?_ _)); refine blk_far ?_ NB307_319.out _; (with_reducible repeat (first | refine blk_drewN ?_ _ | refine blk_drew ?_ | refine blk_alloc ?_ _)); refine blk_far ?_ NB307_319.out _; (with_reducible repeat (first | refine blk_drewN ?_ _ | refine blk_drew ?_ | refine blk_alloc ?_ _)); exact BK307.out), (by (with_reducible repeat (first | refine blk_drewN ?_ _ | refine blk_drew ?_ | refine blk_alloc ?_ _)); refine blk_far ?_ NB308_319.out _; (with_reducible repeat (first | refine blk_drewN ?_ _ | refine blk_drew ?_ | refine blk_alloc ?_ _)); refine blk_far ?_ NB308_319.out _; (with_reducible repeat (first | refine blk_drewN ?_ _ | refine blk_drew ?_ | refine blk_alloc ?_ _)); refine blk_far ?_ NB308_319.out _; (with_reducible repeat (first | refine blk_drewN ?_ _ | refine blk_drew ?_ | refine blk_alloc ?_ _)); exact BK308.out), (by (with_reducible repeat (first | refine blk_drewN ?_ _ | refine blk_drew ?_ | refine blk_alloc ?_ _)); refine blk_far ?_ NB309_319.out _; (with_reducible repeat (first | refine blk_drewN ?_ _ | refine blk_drew ?_ | refine blk_alloc ?_ _)); refine blk_far ?_ NB309_319.out _; (with_reducible repeat (first | refine blk_drewN ?_ _ | refine blk_drew ?_ | refine blk_alloc ?_ _)); refine blk_far ?_ NB309_319.out _; (with_reducible repeat (first | refine blk_drewN ?_ _ | refine blk_drew ?_ | refine blk_alloc ?_ _)); exact BK309.out), (hbx HB), fun _ _ => NB320_319.out, fun _ _ => NB319_320.out, fun _ _ => NB321_319.out, fun _ _ => NB319_321.out, fun _ _ => NB321_320.out, fun _ _ => NB320_321.out, fun _ h1_ => absurd ((up_self b 9).symm.trans h1_) (by decide), fun _ => GW319.out, fun _ => GE319.out, fun _ => NB307_319.out, fun _ => NB319_307.out, fun _ => NB308_319.out, fun _ => NB319_308.out, fun _ => NB309_319.out, fun _ => NB319_309.out, fun _ _ => (by (with_reducible repeat (first | refine blk_drewN ?_ _ | refine blk_drew ?_ | refine blk_alloc ?_ _)); refine blk_far ?_ NB320_319.out _; (with_reducible repeat (first | refine blk_drewN ?_ _ | refine blk_drew ?_ | refine blk_alloc ?_ _)); refine blk_far ?_ NB320_319.out _; (with_reducible repeat (first | refine blk_drewN ?_ _ | refine blk_drew ?_ | refine blk_alloc ?_ _)); refine blk_far ?_ NB320_319.out _; (with_reducible repeat (first | refine blk_drewN ?_ _ | refine blk_drew ?_ | refine blk_alloc ?_ _)); exact BK320.out), fun _ => GW320.out, fun _ => GE320.out, fun _ => NB307_320.out, fun _ => NB320_307.out, fun _ => NB308_320.out, fun _ => NB320_308.out, fun _ => NB309_320.out, fun _ => NB320_309.out, fun _ _ => (by (with_reducible repeat (first | refine blk_drewN ?_ _ | refine blk_drew ?_ | refine blk_alloc ?_ _)); refine blk_far ?_ NB321_319.out _; (with_reducible repeat (first | refine blk_drewN ?_ _ | refine blk_drew ?_ | refine blk_alloc ?_ _)); refine blk_far ?_ NB321_319.out _; (with_reducible repeat (first | refine blk_drewN ?_ _ | refine blk_drew ?_ | refine blk_alloc ?_ _)); refine blk_far ?_ NB321_319.out _; (with_reducible repeat (first | refine blk_drewN ?_ _ | refine blk_drew ?_ | refine blk_alloc ?_ _)); exact BK321.out), fun _ => GW321.out, fun _ => GE321.out, fun _ => NB307_321.out, fun _ => NB321_307.out, fun _ => NB308_321.out, fun _ => NB321_308.out, fun _ => NB309_321.out, fun _ => NB321_309.out, fun _ => (by (with_reducible repeat (first | refine blk_drewN ?_ _ | refine blk_drew ?_ | refine blk_alloc ?_ _)); refine blk_put (cs := #[.int .i64 t310, .int .i64 t311, .int .i64 0]) ?_ 2 _ rfl; (with_reducible repeat (first | refine blk_drewN ?_ _ | refine blk_drew ?_ | refine blk_alloc ?_ _)); refine blk_put (cs := #[.int .i64 t310, .int .i64 0, .int .i64 0]) ?_ 1 _ rfl; (with_reducible repeat (first | refine blk_drewN ?_ _ | refine blk_drew ?_ | refine blk_alloc ?_ _)); refine blk_put (cs := #[.int .i64 0, .int .i64 0, .int .i64 0]) ?_ 0 _ rfl; (with_reducible repeat (first | refine blk_drewN ?_ _ | refine blk_drew ?_ | refine blk_alloc ?_ _)); exact BK319.out), fun h0_ => absurd ((hoff 10 (by kernel_rfl)).symm.trans h0_) (by decide), fun h0_ => absurd ((hoff 11 (by kernel_rfl)).symm.trans h0_) (by decide), Q_X6_, Q_X7_, Q_X8_⟩
   refine steps_cons ?_ ?_
   ·rintro b a w' ⟨gb319, gb320, gb321, m6_, m7_, m8_, ha, Q_BK307, Q_BK308, Q_BK309, Q_HB, Q_NB320_319, Q_NB319_320, Q_NB321_319, Q_NB319_321, Q_NB321_320, Q_NB320_321, Q_BK319, Q_GW319, Q_GE319, Q_NB307_319, Q_NB319_307, Q_NB308_319, Q_NB319_308, Q_NB309_319, Q_NB319_309, Q_BK320, Q_GW320, Q_GE320, Q_NB307_320, Q_NB320_307, Q_NB308_320, Q_NB320_308, Q_NB309_320, Q_NB320_309, Q_BK321, Q_GW321, Q_GE321, Q_NB307_321, Q_NB321_307, Q_NB308_321, Q_NB321_308, Q_NB309_321, Q_NB321_309, Q_BK319_e9, Q_BK320_e10, Q_BK321_e11, Q_X6_, Q_X7_, Q_X8_⟩ hb_ hon hoff
    refine ⟨_, rfl, fun K hK => ?_⟩
    have e8 : a.tmps[8]? = some (m7_) := by rw [ha]; exact putSel_on (e := (7, 8, m7_)) 7 rfl rfl (hon 7 (by kernel_rfl)) rfl
    rw [Q_X7_ (hon 7 (by kernel_rfl))] at e8
    have e14 : a.tmps[14]? = some (.agg #[.int .i64 t313, .int .i64 t314, .int .i64 t315]) := by rw [ha]; exact putSel_on (e := (3, 14, .agg #[.int .i64 t313, .int .i64 t314, .int .i64 t315])) 3 rfl rfl (hon 3 (by kernel_rfl)) rfl
    replace ha := Aside0.mk ha
    have BK307 := Aside0.mk Q_BK307
    have BK308 := Aside0.mk Q_BK308
    have BK309 := Aside0.mk Q_BK309
    have HB := Aside0.mk Q_HB
    have NB320_319 := Aside0.mk (Q_NB320_319 (hon 6 (by kernel_rfl)) (hon 7 (by kernel_rfl)))
    have NB319_320 := Aside0.mk (Q_NB319_320 (hon 6 (by kernel_rfl)) (hon 7 (by kernel_rfl)))
    have NB321_319 := Aside0.mk (Q_NB321_319 (hon 6 (by kernel_rfl)) (hon 8 (by kernel_rfl)))
    have NB319_321 := Aside0.mk (Q_NB319_321 (hon 6 (by kernel_rfl)) (hon 8 (by kernel_rfl)))
    have NB321_320 := Aside0.mk (Q_NB321_320 (hon 7 (by kernel_rfl)) (hon 8 (by kernel_rfl)))
    have NB320_321 := Aside0.mk (Q_NB320_321 (hon 7 (by kernel_rfl)) (hon 8 (by kernel_rfl)))
    have GW319 := Aside0.mk (Q_GW319 (hon 6 (by kernel_rfl)))
    have GE319 := Aside0.mk (Q_GE319 (hon 6 (by kernel_rfl)))
    have NB307_319 := Aside0.mk (Q_NB307_319 (hon 6 (by kernel_rfl)))
    have NB319_307 := Aside0.mk (Q_NB319_307 (hon 6 (by kernel_rfl)))
    have NB308_319 := Aside0.mk (Q_NB308_319 (hon 6 (by kernel_rfl)))
    have NB319_308 := Aside0.mk (Q_NB319_308 (hon 6 (by kernel_rfl)))
    have NB309_319 := Aside0.mk (Q_NB309_319 (hon 6 (by kernel_rfl)))
    have NB319_309 := Aside0.mk (Q_NB319_309 (hon 6 (by kernel_rfl)))
    have BK320 := Aside0.mk (Q_BK320 (hon 7 (by kernel_rfl)) hb_)
    have GW320 := Aside0.mk (Q_GW320 (hon 7 (by kernel_rfl)))
    have GE320 := Aside0.mk (Q_GE320 (hon 7 (by kernel_rfl)))
    have NB307_320 := Aside0.mk (Q_NB307_320 (hon 7 (by kernel_rfl)))
    have NB320_307 := Aside0.mk (Q_NB320_307 (hon 7 (by kernel_rfl)))
    have NB308_320 := Aside0.mk (Q_NB308_320 (hon 7 (by kernel_rfl)))
    have NB320_308 := Aside0.mk (Q_NB320_308 (hon 7 (by kernel_rfl)))
    have NB309_320 := Aside0.mk (Q_NB309_320 (hon 7 (by kernel_rfl)))
    have NB320_309 := Aside0.mk (Q_NB320_309 (hon 7 (by kernel_rfl)))
    have BK321 := Aside0.mk (Q_BK321 (hon 8 (by kernel_rfl)) (hoff 11 (by kernel_rfl)))
    have GW321 := Aside0.mk (Q_GW321 (hon 8 (by kernel_rfl)))
    have GE321 := Aside0.mk (Q_GE321 (hon 8 (by kernel_rfl)))
    have NB307_321 := Aside0.mk (Q_NB307_321 (hon 8 (by kernel_rfl)))
    have NB321_307 := Aside0.mk (Q_NB321_307 (hon 8 (by kernel_rfl)))
    have NB308_321 := Aside0.mk (Q_NB308_321 (hon 8 (by kernel_rfl)))
    have NB321_308 := Aside0.mk (Q_NB321_308 (hon 8 (by kernel_rfl)))
    have NB309_321 := Aside0.mk (Q_NB309_321 (hon 8 (by kernel_rfl)))
    have NB321_309 := Aside0.mk (Q_NB321_309 (hon 8 (by kernel_rfl)))
    have BK319 := Aside0.mk (Q_BK319_e9 (hon 9 (by kernel_rfl)))
    have hs91 : w'.cell? ⟨gb320, 0, none⟩ = some (.int .i64 0) := (blk_cell BK320.out 0).trans rfl
    have hfs91 := blk_frozen BK320.out 0
    have hns91_0 := NB307_320.out
    have hns91_1 := NB308_320.out
    have hns91_2 := NB309_320.out
    have hns91_3 := NB319_320.out
    have hns91_5 := NB321_320.out
    have hms91_0 := NB320_307.out
    have hms91_1 := NB320_308.out
    have hms91_2 := NB320_309.out
    have hms91_3 := NB320_319.out
    have hms91_5 := NB320_321.out
    have hs92 : w'.cell? ⟨gb320, 1, none⟩ = some (.int .i64 0) := (blk_cell BK320.out 1).trans rfl
    have hfs92 := blk_frozen BK320.out 1
    have hns92_0 := NB307_320.out
    have hns92_1 := NB308_320.out
    have hns92_2 := NB309_320.out
    have hns92_3 := NB319_320.out
    have hns92_5 := NB321_320.out
    have hms92_0 := NB320_307.out
    have hms92_1 := NB320_308.out
    have hms92_2 := NB320_309.out
    have hms92_3 := NB320_319.out
    have hms92_5 := NB320_321.out
    have hs93 : w'.cell? ⟨gb320, 2, none⟩ = some (.int .i64 0) := (blk_cell BK320.out 2).trans rfl
    have hfs93 := blk_frozen BK320.out 2
    have hns93_0 := NB307_320.out
    have hns93_1 := NB308_320.out
    have hns93_2 := NB309_320.out
    have hns93_3 := NB319_320.out
    have hns93_5 := NB321_320.out
    have hms93_0 := NB320_307.out
    have hms93_1 := NB320_308.out
    have hms93_2 := NB320_309.out
    have hms93_3 := NB320_319.out
    have hms93_5 := NB320_321.out
    refine skip_ (w1 := ?_) (by rfl) rfl ?_ ?_
    rotate_left
    ·go_simp
     rfl
    refine hK.out _ _ ⟨gb319, gb320, gb321, m6_, m7_, m8_, (by rw [ha.out]; exact putSel_none (v := undef) rfl), (by (with_reducible repeat (first | refine blk_drewN ?_ _ | refine blk_drew ?_ | refine blk_alloc ?_ _)); refine blk_far ?_ NB307_320.out _; (with_reducible repeat (first | refine blk_drewN ?_ _ | refine blk_drew ?_ | refine blk_alloc ?_ _)); refine blk_far ?_ NB307_320.out _; (with_reducible repeat (first | refine blk_drewN ?_ _ | refine blk_drew ?_ | refine blk_alloc ?_ _)); refine blk_far ?_ NB307_320.out _; (with_reducible repeat (first | refine blk_drewN ?_ _ | refine blk_drew ?_ | refine blk_alloc ?_ _)); exact BK307.out), (by (with_reducible repeat (first | refine blk_drewN ?_ _ | refine blk_drew ?_ | refine blk_alloc ?_ _)); refine blk_far ?_ NB308_320.out _; (with_reducible repeat (first | refine blk_drewN ?_ _ | refine blk_drew ?_ | refine blk_alloc ?_ _)); refine blk_far ?_ NB308_320.out _; (with_reducible repeat (first | refine blk_drewN ?_ _ | refine blk_drew ?_ | refine blk_alloc ?_ _)); refine blk_far ?_ NB308_320.out _; (with_reducible repeat (first | refine blk_drewN ?_ _ | refine blk_drew ?_ | refine blk_alloc ?_ _)); exact BK308.out), (by (with_reducible repeat (first | refine blk_drewN ?_ _ | refine blk_drew ?_ | refine blk_alloc ?_ _)); refine blk_far ?_ NB309_320.out _; (with_reducible repeat (first | refine blk_drewN ?_ _ | refine blk_drew ?_ | refine blk_alloc ?_ _)); refine blk_far ?_ NB309_320.out _; (with_reducible repeat (first | refine blk_drewN ?_ _ | refine blk_drew ?_ | refine blk_alloc ?_ _)); refine blk_far ?_ NB309_320.out _; (with_reducible repeat (first | refine blk_drewN ?_ _ | refine blk_drew ?_ | refine blk_alloc ?_ _)); exact BK309.out), (hbx HB), fun _ _ => NB320_319.out, fun _ _ => NB319_320.out, fun _ _ => NB321_319.out, fun _ _ => NB319_321.out, fun _ _ => NB321_320.out, fun _ _ => NB320_321.out, fun _ h1_ => absurd ((hon 9 (by kernel_rfl)).symm.trans h1_) (by decide), fun _ => GW319.out, fun _ => GE319.out, fun _ => NB307_319.out, fun _ => NB319_307.out, fun _ => NB308_319.out, fun _ => NB319_308.out, fun _ => NB309_319.out, fun _ => NB319_309.out, fun _ h1_ => absurd ((up_self b 10).symm.trans h1_) (by decide), fun _ => GW320.out, fun _ => GE320.out, fun _ => NB307_320.out, fun _ => NB320_307.out, fun _ => NB308_320.out, fun _ => NB320_308.out, fun _ => NB309_320.out, fun _ => NB320_309.out, fun _ _ => (by (with_reducible repeat (first | refine blk_drewN ?_ _ | refine blk_drew ?_ | refine blk_alloc ?_ _)); refine blk_far ?_ NB321_320.out _; (with_reducible repeat (first | refine blk_drewN ?_ _ | refine blk_drew ?_ | refine blk_alloc ?_ _)); refine blk_far ?_ NB321_320.out _; (with_reducible repeat (first | refine blk_drewN ?_ _ | refine blk_drew ?_ | refine blk_alloc ?_ _)); refine blk_far ?_ NB321_320.out _; (with_reducible repeat (first | refine blk_drewN ?_ _ | refine blk_drew ?_ | refine blk_alloc ?_ _)); exact BK321.out), fun _ => GW321.out, fun _ => GE321.out, fun _ => NB307_321.out, fun _ => NB321_307.out, fun _ => NB308_321.out, fun _ => NB321_308.out, fun _ => NB309_321.out, fun _ => NB321_309.out, fun _ => (by (with_reducible repeat (first | refine blk_drewN ?_ _ | refine blk_drew ?_ | refine blk_alloc ?_ _)); refine blk_far ?_ NB319_320.out _; (with_reducible repeat (first | refine blk_drewN ?_ _ | refine blk_drew ?_ | refine blk_alloc ?_ _)); refine blk_far ?_ NB319_320.out _; (with_reducible repeat (first | refine blk_drewN ?_ _ | refine blk_drew ?_ | refine blk_alloc ?_ _)); refine blk_far ?_ NB319_320.out _; (with_reducible repeat (first | refine blk_drewN ?_ _ | refine blk_drew ?_ | refine blk_alloc ?_ _)); exact BK319.out), fun _ => (by (with_reducible repeat (first | refine blk_drewN ?_ _ | refine blk_drew ?_ | refine blk_alloc ?_ _)); refine blk_put (cs := #[.int .i64 t313, .int .i64 t314, .int .i64 0]) ?_ 2 _ rfl; (with_reducible repeat (first | refine blk_drewN ?_ _ | refine blk_drew ?_ | refine blk_alloc ?_ _)); refine blk_put (cs := #[.int .i64 t313, .int .i64 0, .int .i64 0]) ?_ 1 _ rfl; (with_reducible repeat (first | refine blk_drewN ?_ _ | refine blk_drew ?_ | refine blk_alloc ?_ _)); refine blk_put (cs := #[.int .i64 0, .int .i64 0, .int .i64 0]) ?_ 0 _ rfl; (with_reducible repeat (first | refine blk_drewN ?_ _ | refine blk_drew ?_ | refine blk_alloc ?_ _)); exact BK320.out), fun h0_ => absurd ((hoff 11 (by kernel_rfl)).symm.trans h0_) (by decide), Q_X6_, Q_X7_, Q_X8_⟩
   refine steps_cons ?_ ?_
   ·rintro b a w' ⟨gb319, gb320, gb321, m6_, m7_, m8_, ha, Q_BK307, Q_BK308, Q_BK309, Q_HB, Q_NB320_319, Q_NB319_320, Q_NB321_319, Q_NB319_321, Q_NB321_320, Q_NB320_321, Q_BK319, Q_GW319, Q_GE319, Q_NB307_319, Q_NB319_307, Q_NB308_319, Q_NB319_308, Q_NB309_319, Q_NB319_309, Q_BK320, Q_GW320, Q_GE320, Q_NB307_320, Q_NB320_307, Q_NB308_320, Q_NB320_308, Q_NB309_320, Q_NB320_309, Q_BK321, Q_GW321, Q_GE321, Q_NB307_321, Q_NB321_307, Q_NB308_321, Q_NB321_308, Q_NB309_321, Q_NB321_309, Q_BK319_e9, Q_BK320_e10, Q_BK321_e11, Q_X6_, Q_X7_, Q_X8_⟩ hb_ hon hoff
    refine ⟨_, rfl, fun K hK => ?_⟩
    have e9 : a.tmps[9]? = some (m8_) := by rw [ha]; exact putSel_on (e := (8, 9, m8_)) 8 rfl rfl (hon 8 (by kernel_rfl)) rfl
    rw [Q_X8_ (hon 8 (by kernel_rfl))] at e9
    have e16 : a.tmps[16]? = some (.agg #[.int .i64 t316, .int .i64 t317, .int .i64 t318]) := by rw [ha]; exact putSel_on (e := (5, 16, .agg #[.int .i64 t316, .int .i64 t317, .int .i64 t318])) 5 rfl rfl (hon 5 (by kernel_rfl)) rfl
    replace ha := Aside0.mk ha
    have BK307 := Aside0.mk Q_BK307
    have BK308 := Aside0.mk Q_BK308
    have BK309 := Aside0.mk Q_BK309
    have HB := Aside0.mk Q_HB
    have NB320_319 := Aside0.mk (Q_NB320_319 (hon 6 (by kernel_rfl)) (hon 7 (by kernel_rfl)))
    have NB319_320 := Aside0.mk (Q_NB319_320 (hon 6 (by kernel_rfl)) (hon 7 (by kernel_rfl)))
    have NB321_319 := Aside0.mk (Q_NB321_319 (hon 6 (by kernel_rfl)) (hon 8 (by kernel_rfl)))
    have NB319_321 := Aside0.mk (Q_NB319_321 (hon 6 (by kernel_rfl)) (hon 8 (by kernel_rfl)))
    have NB321_320 := Aside0.mk (Q_NB321_320 (hon 7 (by kernel_rfl)) (hon 8 (by kernel_rfl)))
    have NB320_321 := Aside0.mk (Q_NB320_321 (hon 7 (by kernel_rfl)) (hon 8 (by kernel_rfl)))
    have GW319 := Aside0.mk (Q_GW319 (hon 6 (by kernel_rfl)))
    have GE319 := Aside0.mk (Q_GE319 (hon 6 (by kernel_rfl)))
    have NB307_319 := Aside0.mk (Q_NB307_319 (hon 6 (by kernel_rfl)))
    have NB319_307 := Aside0.mk (Q_NB319_307 (hon 6 (by kernel_rfl)))
    have NB308_319 := Aside0.mk (Q_NB308_319 (hon 6 (by kernel_rfl)))
    have NB319_308 := Aside0.mk (Q_NB319_308 (hon 6 (by kernel_rfl)))
    have NB309_319 := Aside0.mk (Q_NB309_319 (hon 6 (by kernel_rfl)))
    have NB319_309 := Aside0.mk (Q_NB319_309 (hon 6 (by kernel_rfl)))
    have GW320 := Aside0.mk (Q_GW320 (hon 7 (by kernel_rfl)))
    have GE320 := Aside0.mk (Q_GE320 (hon 7 (by kernel_rfl)))
    have NB307_320 := Aside0.mk (Q_NB307_320 (hon 7 (by kernel_rfl)))
    have NB320_307 := Aside0.mk (Q_NB320_307 (hon 7 (by kernel_rfl)))
    have NB308_320 := Aside0.mk (Q_NB308_320 (hon 7 (by kernel_rfl)))
    have NB320_308 := Aside0.mk (Q_NB320_308 (hon 7 (by kernel_rfl)))
    have NB309_320 := Aside0.mk (Q_NB309_320 (hon 7 (by kernel_rfl)))
    have NB320_309 := Aside0.mk (Q_NB320_309 (hon 7 (by kernel_rfl)))
    have BK321 := Aside0.mk (Q_BK321 (hon 8 (by kernel_rfl)) hb_)
    have GW321 := Aside0.mk (Q_GW321 (hon 8 (by kernel_rfl)))
    have GE321 := Aside0.mk (Q_GE321 (hon 8 (by kernel_rfl)))
    have NB307_321 := Aside0.mk (Q_NB307_321 (hon 8 (by kernel_rfl)))
    have NB321_307 := Aside0.mk (Q_NB321_307 (hon 8 (by kernel_rfl)))
    have NB308_321 := Aside0.mk (Q_NB308_321 (hon 8 (by kernel_rfl)))
    have NB321_308 := Aside0.mk (Q_NB321_308 (hon 8 (by kernel_rfl)))
    have NB309_321 := Aside0.mk (Q_NB309_321 (hon 8 (by kernel_rfl)))
    have NB321_309 := Aside0.mk (Q_NB321_309 (hon 8 (by kernel_rfl)))
    have BK319 := Aside0.mk (Q_BK319_e9 (hon 9 (by kernel_rfl)))
    have BK320 := Aside0.mk (Q_BK320_e10 (hon 10 (by kernel_rfl)))
    have hs94 : w'.cell? ⟨gb321, 0, none⟩ = some (.int .i64 0) := (blk_cell BK321.out 0).trans rfl
    have hfs94 := blk_frozen BK321.out 0
    have hns94_0 := NB307_321.out
    have hns94_1 := NB308_321.out
    have hns94_2 := NB309_321.out
    have hns94_3 := NB319_321.out
    have hns94_4 := NB320_321.out
    have hms94_0 := NB321_307.out
    have hms94_1 := NB321_308.out
    have hms94_2 := NB321_309.out
    have hms94_3 := NB321_319.out
    have hms94_4 := NB321_320.out
    have hs95 : w'.cell? ⟨gb321, 1, none⟩ = some (.int .i64 0) := (blk_cell BK321.out 1).trans rfl
    have hfs95 := blk_frozen BK321.out 1
    have hns95_0 := NB307_321.out
    have hns95_1 := NB308_321.out
    have hns95_2 := NB309_321.out
    have hns95_3 := NB319_321.out
    have hns95_4 := NB320_321.out
    have hms95_0 := NB321_307.out
    have hms95_1 := NB321_308.out
    have hms95_2 := NB321_309.out
    have hms95_3 := NB321_319.out
    have hms95_4 := NB321_320.out
    have hs96 : w'.cell? ⟨gb321, 2, none⟩ = some (.int .i64 0) := (blk_cell BK321.out 2).trans rfl
    have hfs96 := blk_frozen BK321.out 2
    have hns96_0 := NB307_321.out
    have hns96_1 := NB308_321.out
    have hns96_2 := NB309_321.out
    have hns96_3 := NB319_321.out
    have hns96_4 := NB320_321.out
    have hms96_0 := NB321_307.out
    have hms96_1 := NB321_308.out
    have hms96_2 := NB321_309.out
    have hms96_3 := NB321_319.out
    have hms96_4 := NB321_320.out
    refine skip_ (w1 := ?_) (by rfl) rfl ?_ ?_
    rotate_left
    ·go_simp
     rfl
    refine hK.out _ _ ⟨gb319, gb320, gb321, m6_, m7_, m8_, (by rw [ha.out]; exact putSel_none (v := undef) rfl), (by (with_reducible repeat (first | refine blk_drewN ?_ _ | refine blk_drew ?_ | refine blk_alloc ?_ _)); refine blk_far ?_ NB307_321.out _; (with_reducible repeat (first | refine blk_drewN ?_ _ | refine blk_drew ?_ | refine blk_alloc ?_ _)); refine blk_far ?_ NB307_321.out _; (with_reducible repeat (first | refine blk_drewN ?_ _ | refine blk_drew ?_ | refine blk_alloc ?_ _)); refine blk_far ?_ NB307_321.out _; (with_reducible repeat (first | refine blk_drewN ?_ _ | refine blk_drew ?_ | refine blk_alloc ?_ _)); exact BK307.out), (by (with_reducible repeat (first | refine blk_drewN ?_ _ | refine blk_drew ?_ | refine blk_alloc ?_ _)); refine blk_far ?_ NB308_321.out _; (with_reducible repeat (first | refine blk_drewN ?_ _ | refine blk_drew ?_ | refine blk_alloc ?_ _)); refine blk_far ?_ NB308_321.out _; (with_reducible repeat (first | refine blk_drewN ?_ _ | refine blk_drew ?_ | refine blk_alloc ?_ _)); refine blk_far ?_ NB308_321.out _; (with_reducible repeat (first | refine blk_drewN ?_ _ | refine blk_drew ?_ | refine blk_alloc ?_ _)); exact BK308.out), (by (with_reducible repeat (first | refine blk_drewN ?_ _ | refine blk_drew ?_ | refine blk_alloc ?_ _)); refine blk_far ?_ NB309_321.out _; (with_reducible repeat (first | refine blk_drewN ?_ _ | refine blk_drew ?_ | refine blk_alloc ?_ _)); refine blk_far ?_ NB309_321.out _; (with_reducible repeat (first | refine blk_drewN ?_ _ | refine blk_drew ?_ | refine blk_alloc ?_ _)); refine blk_far ?_ NB309_321.out _; (with_reducible repeat (first | refine blk_drewN ?_ _ | refine blk_drew ?_ | refine blk_alloc ?_ _)); exact BK309.out), (hbx HB), fun _ _ => NB320_319.out, fun _ _ => NB319_320.out, fun _ _ => NB321_319.out, fun _ _ => NB319_321.out, fun _ _ => NB321_320.out, fun _ _ => NB320_321.out, fun _ h1_ => absurd ((hon 9 (by kernel_rfl)).symm.trans h1_) (by decide), fun _ => GW319.out, fun _ => GE319.out, fun _ => NB307_319.out, fun _ => NB319_307.out, fun _ => NB308_319.out, fun _ => NB319_308.out, fun _ => NB309_319.out, fun _ => NB319_309.out, fun _ h1_ => absurd ((hon 10 (by kernel_rfl)).symm.trans h1_) (by decide), fun _ => GW320.out, fun _ => GE320.out, fun _ => NB307_320.out, fun _ => NB320_307.out, fun _ => NB308_320.out, fun _ => NB320_308.out, fun _ => NB309_320.out, fun _ => NB320_309.out, fun _ h1_ => absurd ((up_self b 11).symm.trans h1_) (by decide), fun _ => GW321.out, fun _ => GE321.out, fun _ => NB307_321.out, fun _ => NB321_307.out, fun _ => NB308_321.out, fun _ => NB321_308.out, fun _ => NB309_321.out, fun _ => NB321_309.out, fun _ => (by (with_reducible repeat (first | refine blk_drewN ?_ _ | refine blk_drew ?_ | refine blk_alloc ?_ _)); refine blk_far ?_ NB319_321.out _; (with_reducible repeat (first | refine blk_drewN ?_ _ | refine blk_drew ?_ | refine blk_alloc ?_ _)); refine blk_far ?_ NB319_321.out _; (with_reducible repeat (first | refine blk_drewN ?_ _ | refine blk_drew ?_ | refine blk_alloc ?_ _)); refine blk_far ?_ NB319_321.out _; (with_reducible repeat (first | refine blk_drewN ?_ _ | refine blk_drew ?_ | refine blk_alloc ?_ _)); exact BK319.out), fun _ => (by (with_reducible repeat (first | refine blk_drewN ?_ _ | refine blk_drew ?_ | refine blk_alloc ?_ _)); refine blk_far ?_ NB320_321.out _; (with_reducible repeat (first | refine blk_drewN ?_ _ | refine blk_drew ?_ | refine blk_alloc ?_ _)); refine blk_far ?_ NB320_321.out _; (with_reducible repeat (first | refine blk_drewN ?_ _ | refine blk_drew ?_ | refine blk_alloc ?_ _)); refine blk_far ?_ NB320_321.out _; (with_reducible repeat (first | refine blk_drewN ?_ _ | refine blk_drew ?_ | refine blk_alloc ?_ _)); exact BK320.out), fun _ => (by (with_reducible repeat (first | refine blk_drewN ?_ _ | refine blk_drew ?_ | refine blk_alloc ?_ _)); refine blk_put (cs := #[.int .i64 t316, .int .i64 t317, .int .i64 0]) ?_ 2 _ rfl; (with_reducible repeat (first | refine blk_drewN ?_ _ | refine blk_drew ?_ | refine blk_alloc ?_ _)); refine blk_put (cs := #[.int .i64 t316, .int .i64 0, .int .i64 0]) ?_ 1 _ rfl; (with_reducible repeat (first | refine blk_drewN ?_ _ | refine blk_drew ?_ | refine blk_alloc ?_ _)); refine blk_put (cs := #[.int .i64 0, .int .i64 0, .int .i64 0]) ?_ 0 _ rfl; (with_reducible repeat (first | refine blk_drewN ?_ _ | refine blk_drew ?_ | refine blk_alloc ?_ _)); exact BK321.out), Q_X6_, Q_X7_, Q_X8_⟩
   exact steps_nil
  rintro b a w96 hall ⟨gb319, gb320, gb321, m6_, m7_, m8_, ha, Q_BK307, Q_BK308, Q_BK309, Q_HB, Q_NB320_319, Q_NB319_320, Q_NB321_319, Q_NB319_321, Q_NB321_320, Q_NB320_321, Q_BK319, Q_GW319, Q_GE319, Q_NB307_319, Q_NB319_307, Q_NB308_319, Q_NB319_308, Q_NB309_319, Q_NB319_309, Q_BK320, Q_GW320, Q_GE320, Q_NB307_320, Q_NB320_307, Q_NB308_320, Q_NB320_308, Q_NB309_320, Q_NB320_309, Q_BK321, Q_GW321, Q_GE321, Q_NB307_321, Q_NB321_307, Q_NB308_321, Q_NB321_308, Q_NB309_321, Q_NB321_309, Q_BK319_e9, Q_BK320_e10, Q_BK321_e11, Q_X6_, Q_X7_, Q_X8_⟩
  clear BK307 BK308 BK309 HB
  have hb0_ := hall 0 (by kernel_rfl)
  have hb1_ := hall 1 (by kernel_rfl)
  have hb2_ := hall 2 (by kernel_rfl)
  have hb3_ := hall 3 (by kernel_rfl)
  have hb4_ := hall 4 (by kernel_rfl)
  have hb5_ := hall 5 (by kernel_rfl)
  have hb6_ := hall 6 (by kernel_rfl)
  have hb7_ := hall 7 (by kernel_rfl)
  have hb8_ := hall 8 (by kernel_rfl)
  have hb9_ := hall 9 (by kernel_rfl)
  have hb10_ := hall 10 (by kernel_rfl)
  have hb11_ := hall 11 (by kernel_rfl)
  subst ha
  obtain rfl := Q_X6_ hb6_
  obtain rfl := Q_X7_ hb7_
  obtain rfl := Q_X8_ hb8_
  simp only [putSel, hb0_, hb1_, hb2_, hb3_, hb4_, hb5_, hb6_, hb7_, hb8_, hb9_, hb10_, hb11_, if_true, Act.put, List.setIfInBounds_toArray, List.set_cons_zero, List.set_cons_succ]
  have BK307 := Aside0.mk Q_BK307
  clear Q_BK307
  have BK308 := Aside0.mk Q_BK308
  clear Q_BK308
  have BK309 := Aside0.mk Q_BK309
  clear Q_BK309
  have HB := Aside0.mk Q_HB
  clear Q_HB
  have NB320_319 := Aside0.mk (Q_NB320_319 hb6_ hb7_)
  clear Q_NB320_319
  have NB319_320 := Aside0.mk (Q_NB319_320 hb6_ hb7_)
  clear Q_NB319_320
  have NB321_319 := Aside0.mk (Q_NB321_319 hb6_ hb8_)
  clear Q_NB321_319
  have NB319_321 := Aside0.mk (Q_NB319_321 hb6_ hb8_)
  clear Q_NB319_321
  have NB321_320 := Aside0.mk (Q_NB321_320 hb7_ hb8_)
  clear Q_NB321_320
  have NB320_321 := Aside0.mk (Q_NB320_321 hb7_ hb8_)
  clear Q_NB320_321
  clear Q_BK319
  have GW319 := Aside0.mk (Q_GW319 hb6_)
  clear Q_GW319
  have GE319 := Aside0.mk (Q_GE319 hb6_)
  clear Q_GE319
  have NB307_319 := Aside0.mk (Q_NB307_319 hb6_)
  clear Q_NB307_319
  have NB319_307 := Aside0.mk (Q_NB319_307 hb6_)
  clear Q_NB319_307
  have NB308_319 := Aside0.mk (Q_NB308_319 hb6_)
  clear Q_NB308_319
  have NB319_308 := Aside0.mk (Q_NB319_308 hb6_)
  clear Q_NB319_308
  have NB309_319 := Aside0.mk (Q_NB309_319 hb6_)
  clear Q_NB309_319
  have NB319_309 := Aside0.mk (Q_NB319_309 hb6_)
  clear Q_NB319_309
  clear Q_BK320
  have GW320 := Aside0.mk (Q_GW320 hb7_)
  clear Q_GW320
  have GE320 := Aside0.mk (Q_GE320 hb7_)
  clear Q_GE320
  have NB307_320 := Aside0.mk (Q_NB307_320 hb7_)
  clear Q_NB307_320
  have NB320_307 := Aside0.mk (Q_NB320_307 hb7_)
  clear Q_NB320_307
  have NB308_320 := Aside0.mk (Q_NB308_320 hb7_)
  clear Q_NB308_320
  have NB320_308 := Aside0.mk (Q_NB320_308 hb7_)
  clear Q_NB320_308
  have NB309_320 := Aside0.mk (Q_NB309_320 hb7_)
  clear Q_NB309_320
  have NB320_309 := Aside0.mk (Q_NB320_309 hb7_)
  clear Q_NB320_309
  clear Q_BK321
  have GW321 := Aside0.mk (Q_GW321 hb8_)
  clear Q_GW321
  have GE321 := Aside0.mk (Q_GE321 hb8_)
  clear Q_GE321
  have NB307_321 := Aside0.mk (Q_NB307_321 hb8_)
  clear Q_NB307_321
  have NB321_307 := Aside0.mk (Q_NB321_307 hb8_)
  clear Q_NB321_307
  have NB308_321 := Aside0.mk (Q_NB308_321 hb8_)
  clear Q_NB308_321
  have NB321_308 := Aside0.mk (Q_NB321_308 hb8_)
  clear Q_NB321_308
  have NB309_321 := Aside0.mk (Q_NB309_321 hb8_)
  clear Q_NB309_321
  have NB321_309 := Aside0.mk (Q_NB321_309 hb8_)
  clear Q_NB321_309
  have BK319 := Aside0.mk (Q_BK319_e9 hb9_)
  clear Q_BK319_e9
  have BK320 := Aside0.mk (Q_BK320_e10 hb10_)
  clear Q_BK320_e10
  have BK321 := Aside0.mk (Q_BK321_e11 hb11_)
  clear Q_BK321_e11
  clear hall hb0_ hb1_ hb2_ hb3_ hb4_ hb5_ hb6_ hb7_ hb8_ hb9_ hb10_ hb11_
  have hnb97 := NB319_307.out
  have hnc97 := NB307_319.out
  have hnb98 := NB319_308.out
  have hnc98 := NB308_319.out
  have hnb99 := NB319_309.out
  have hnc99 := NB309_319.out
  have hnb100 := NB319_320.out
  have hnc100 := NB320_319.out
  have hnb101 := NB319_321.out
  have hnc101 := NB321_319.out
  obtain ⟨hcz102_0, hcz102_1, hcz102_2, hfz102_0, hfz102_1, hfz102_2⟩ := cz3 BK319
  have hnb103 := NB320_307.out
  have hnc103 := NB307_320.out
  have hnb104 := NB320_308.out
  have hnc104 := NB308_320.out
  have hnb105 := NB320_309.out
  have hnc105 := NB309_320.out
  have hnb106 := NB320_321.out
  have hnc106 := NB321_320.out
  obtain ⟨hcz107_0, hcz107_1, hcz107_2, hfz107_0, hfz107_1, hfz107_2⟩ := cz3 BK320
  have hnb108 := NB321_307.out
  have hnc108 := NB307_321.out
  have hnb109 := NB321_308.out
  have hnc109 := NB308_321.out
  have hnb110 := NB321_309.out
  have hnc110 := NB309_321.out
  obtain ⟨hcz111_0, hcz111_1, hcz111_2, hfz111_0, hfz111_1, hfz111_2⟩ := cz3 BK321
  try go_wp2_with (first | ((with_reducible refine gate_callee (f := 171) rfl ?_); refine gL 20 Try.func171 #[.agg #[.int .i64 t310, .int .i64 t311, .int .i64 t312], .agg #[.int .i64 t313, .int .i64 t314, .int .i64 t315], .agg #[.int .i64 t316, .int .i64 t317, .int .i64 t318]] ?_; (with_reducible refine (impl_det.calls t310 t311 t312 t313 t314 t315 t316 t317 t318 t322 _ A7.out).mono ?_); rintro e w112 ⟨rfl, hb⟩; refine ⟨_, rfl, ?_⟩; have n0_ := kb BK307 hb; have n1_ := kb BK308 hb; have n2_ := kb BK309 hb; have n3_ := kb BK319 hb; have n4_ := kb BK320 hb; have n5_ := kb BK321 hb; have n6_ := bt HB hb; clear BK307; clear BK308; clear BK309; clear BK319; clear BK320; clear BK321; clear HB; have BK307 := n0_; have BK308 := n1_; have BK309 := n2_; have BK319 := n3_; have BK320 := n4_; have BK321 := n5_; have HB := n6_; clear n0_ n1_ n2_ n3_ n4_ n5_ n6_; (try clear hb); (try clear hb2); (try clear hk); (try clear hi)))
  go_ret
  exact fin HB

end Go.Proofs.Ytndedincanmaeaa.Print
