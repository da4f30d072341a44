-- Printed by a program of the session (mkprinter.py, over the kit's print); Lean checks it.
import Derived.Test.YtndedincanmaeaaCp
import Derived.Test.YtndedincanmaeaaPrint0
import Derived.Test.YtndedincanmaeaaPrint11
import Derived.Test.YtndedincanmaeaaPrint12
namespace Go.Proofs.Ytndedincanmaeaa.Print
open Go.RowKit Go.Proofs.YtndedincanmaeaaW.PrintWords Go.Proofs.YtndedincanmaeaaW.PrintLast Go.Proofs.Ytndedincanmaeaa.Cp
set_option linter.unusedVariables false
set_option linter.unusedSimpArgs false

/-! ### impl_clash2: function 164 -/
def impl_clash2.l0 : Nat → Int → Int → Int → Int → Int → Int → Int → Int → Int → Int → Int → Int → Int → Int → Int → Option (Bool)
 | 0, _, _, _, _, _, _, _, _, _, _, _, _, _, _, _ => none
 | k + 1, x16, x285000, x285001, x285002, x285003, x286000, x286001, x286002, x286003, x294000, x294001, x294002, x295000, x295001, x295002 => if x16 < 3 then (if x16 = 0 then (if x294000 = 0 then (impl_clash2.l0 k (wrap64 (x16 + 1)) x285000 x285001 x285002 x285003 x286000 x286001 x286002 x286003 x294000 x294001 x294002 x295000 x295001 x295002) else (some (decide ((wrap64 ((wrap64 (x285003 * (mx x295000 (wrap64 (-x295000))))) + (wrap64 (x286003 * (mx x294000 (wrap64 (-x294000))))))) ≤ 0)))) else (if x16 = 1 then (if x294001 = 0 then (impl_clash2.l0 k (wrap64 (x16 + 1)) x285000 x285001 x285002 x285003 x286000 x286001 x286002 x286003 x294000 x294001 x294002 x295000 x295001 x295002) else (some (decide ((wrap64 ((wrap64 (x285003 * (mx x295001 (wrap64 (-x295001))))) + (wrap64 (x286003 * (mx x294001 (wrap64 (-x294001))))))) ≤ 0)))) else (if x16 = 2 then (if x294002 = 0 then (impl_clash2.l0 k (wrap64 (x16 + 1)) x285000 x285001 x285002 x285003 x286000 x286001 x286002 x286003 x294000 x294001 x294002 x295000 x295001 x295002) else (some (decide ((wrap64 ((wrap64 (x285003 * (mx x295002 (wrap64 (-x295002))))) + (wrap64 (x286003 * (mx x294002 (wrap64 (-x294002))))))) ≤ 0)))) else (none)))) else (some false)
def impl_clash2.f (k : Nat) (a0_0 : Int) (a0_1 : Int) (a0_2 : Int) (a0_3 : Int) (a1_0 : Int) (a1_1 : Int) (a1_2 : Int) (a1_3 : Int) : Option (Bool) := (impl_parallel.f a0_0 a0_1 a0_2 a0_3 a1_0 a1_1 a1_2 a1_3).bind fun t286 => (if t286 ≥ 0 then (some false) else ((impl_normal.f a0_0 a0_1 a0_2 a0_3).bind fun bt287 => ((impl_normal.f a1_0 a1_1 a1_2 a1_3).bind fun bt290 => (impl_clash2.l0 k 0 a0_0 a0_1 a0_2 a0_3 a1_0 a1_1 a1_2 a1_3 bt287.1 bt287.2.1 bt287.2.2 bt290.1 bt290.2.1 bt290.2.2))))
theorem impl_clash2.mono_l : ∀ k, (∀ y0 y1 y2 y3 y4 y5 y6 y7 y8 y9 y10 y11 y12 y13 y14, LeO (impl_clash2.l0 k y0 y1 y2 y3 y4 y5 y6 y7 y8 y9 y10 y11 y12 y13 y14) (impl_clash2.l0 (k + 1) y0 y1 y2 y3 y4 y5 y6 y7 y8 y9 y10 y11 y12 y13 y14))
 | 0 => fun _ _ _ _ _ _ _ _ _ _ _ _ _ _ _ r h => by simp [impl_clash2.l0] at h
 | k + 1 => by
  have ih0 := impl_clash2.mono_l k
  intro y0 y1 y2 y3 y4 y5 y6 y7 y8 y9 y10 y11 y12 y13 y14
  unfold impl_clash2.l0
  repeat' first
  | (with_reducible exact ih0 _ _ _ _ _ _ _ _ _ _ _ _ _ _ _)
  | (with_reducible exact LeO.refl _)
  | (with_reducible exact LeO.none _)
  | (with_reducible refine LeO.ite ?_ ?_)
  | (with_reducible refine LeO.bind ?_ (fun _ => ?_))
  | exact ih0 _ _ _ _ _ _ _ _ _ _ _ _ _ _ _
  | exact LeO.none _
  | refine LeO.ite ?_ ?_
  | refine LeO.bind ?_ (fun _ => ?_)
theorem impl_clash2.mono : ∀ a0 a1 a2 a3 a4 a5 a6 a7 k, LeO (impl_clash2.f k a0 a1 a2 a3 a4 a5 a6 a7) (impl_clash2.f (k + 1) a0 a1 a2 a3 a4 a5 a6 a7) := by
 intro a0 a1 a2 a3 a4 a5 a6 a7 k
 have ih0 := impl_clash2.mono_l k
 unfold impl_clash2.f
 repeat' first
   | (with_reducible exact ih0 _ _ _ _ _ _ _ _ _ _ _ _ _ _ _)
   | (with_reducible exact LeO.refl _)
   | (with_reducible exact LeO.none _)
   | (with_reducible refine LeO.ite ?_ ?_)
   | (with_reducible refine LeO.bind ?_ (fun _ => ?_))
   | exact ih0 _ _ _ _ _ _ _ _ _ _ _ _ _ _ _
   | exact LeO.none _
   | refine LeO.ite ?_ ?_
   | refine LeO.bind ?_ (fun _ => ?_)
def impl_clash2.T3 : Bool × List (List Nat × List Nat) := (true, [([], []), ([0], [0]), ([], []), ([2, 1], [2]), ([], []), ([], []), ([4, 1, 3, 0, 1, 4, 5], [1, 4]), ([5, 3, 6, 0, 1, 2, 3, 4, 5, 6], [3, 5])])
def impl_clash2.B3 : List Nat := [0, 1, 0, 7, 0, 0, 63, 127]
theorem impl_clash2.tab3 : rtab .any (opsOf Try.f164 3) = impl_clash2.T3 := by kernel_rfl
theorem impl_clash2.bits3 : waitsOk impl_clash2.T3.2 impl_clash2.B3 = true := by kernel_rfl
def impl_clash2.T8 : Bool × List (List Nat × List Nat) := (true, [([], []), ([0], [0]), ([], []), ([2], [2]), ([3], [3]), ([], []), ([5], [5]), ([6], [6]), ([7], [7]), ([4, 8], [4, 8]), ([1, 9], [1, 9]), ([], []), ([11], [11]), ([], []), ([13], [13]), ([14], [14]), ([], []), ([16], [16]), ([17], [17]), ([18], [18]), ([15, 19], [15, 19]), ([12, 20], [12, 20]), ([10, 21], [10, 21]), ([22], [22]), ([23, 0, 1, 2, 3, 4, 5, 6, 7, 8, 9, 10, 11, 12, 13, 14, 15, 16, 17, 18, 19, 20, 21, 22, 23], [23])])
def impl_clash2.B8 : List Nat := [0, 1, 0, 4, 12, 0, 32, 96, 224, 508, 1023, 0, 2048, 0, 8192, 24576, 0, 65536, 196608, 458752, 1040384, 2095104, 4194303, 8388607, 16777215]
theorem impl_clash2.tab8 : rtab .any (opsOf Try.f164 8) = impl_clash2.T8 := by kernel_rfl
theorem impl_clash2.bits8 : waitsOk impl_clash2.T8.2 impl_clash2.B8 = true := by kernel_rfl
set_option maxHeartbeats 8000000 in
set_option maxRecDepth 100000 in
theorem impl_clash2.calls (k : Nat) (a0_0 : Int) (a0_1 : Int) (a0_2 : Int) (a0_3 : Int) (a1_0 : Int) (a1_1 : Int) (a1_2 : Int) (a1_3 : Int) (r : Bool) (w : World) (h : impl_clash2.f k a0_0 a0_1 a0_2 a0_3 a1_0 a1_1 a1_2 a1_3 = some r) :
  Calls Try.prog 164 #[.agg #[.int .i64 a0_0, .int .i64 a0_1, .int .i64 a0_2, .int .i64 a0_3], .agg #[.int .i64 a1_0, .int .i64 a1_1, .int .i64 a1_2, .int .i64 a1_3]] w fun e w' => e = .returned (.bool r) ∧ Below w.heap.size w w' := by
 have hu23 := Try.underlying23
 have hu128 := Try.underlying128
 have HB := Aside0.mk (Below.refl w.heap.size w)
 have H : ((impl_parallel.f a0_0 a0_1 a0_2 a0_3 a1_0 a1_1 a1_2 a1_3).bind fun t286 => (if t286 ≥ 0 then (some false) else ((impl_normal.f a0_0 a0_1 a0_2 a0_3).bind fun bt287 => ((impl_normal.f a1_0 a1_1 a1_2 a1_3).bind fun bt290 => (impl_clash2.l0 k 0 a0_0 a0_1 a0_2 a0_3 a1_0 a1_1 a1_2 a1_3 bt287.1 bt287.2.1 bt287.2.2 bt290.1 bt290.2.1 bt290.2.2))))) = some r := h
 clear h
 obtain ⟨t286, A3, H⟩ := bi H
 by_cases c4 : t286 ≥ 0
 ·rw [if_pos c4] at H
  have c4b0 : decide (0 ≤ t286) = true := decide_eq_true c4
  clear c4
  obtain rfl := Option.some.inj H
  go_enter Try.func164, Try.ntmps164
  go_wp2_with (first | ((with_reducible refine gate_dst (N := 2) rfl ?_); refine box_event ?hg (N := 2) ?hd (cs := #[.int .i64 a0_0, .int .i64 a0_1, .int .i64 a0_2, .int .i64 a0_3]) (t := 23) ?hr ?_; (case hd => rfl); (case hg => rfl); (case hr => first | (go_simp; done) | (go_simp; rfl)); intro g1 hg w5 hbox hb; have bK1 := Aside0.mk (hbox); have bW1 := gx hg HB; have bE1 := gx hg HB; replace HB := bt HB hb; clear hb hbox hg) | ((with_reducible refine gate_dst (N := 3) rfl ?_); refine box_event ?hg (N := 3) ?hd (cs := #[.int .i64 a1_0, .int .i64 a1_1, .int .i64 a1_2, .int .i64 a1_3]) (t := 23) ?hr ?_; (case hd => rfl); (case hg => rfl); (case hr => first | (go_simp; done) | (go_simp; rfl)); intro g2 hg w6 hbox hb; have n0_ := kb bK1 hb; have n1_ := bt HB hb; have n2_ := Aside0.mk (hbox); have n3_ := gx hg HB; have n4_ := gx hg HB; have n5_ := nl hg bK1; have n6_ := nr hg bK1; clear bK1; clear HB; have bK1 := n0_; have HB := n1_; have bK2 := n2_; have bW2 := n3_; have bE2 := n4_; have bN1_2 := n5_; have bN2_1 := n6_; clear n0_ n1_ n2_ n3_ n4_ n5_ n6_; clear hb hbox hg; have hnb7 := bN1_2.out; have hnc7 := bN2_1.out; obtain ⟨hcz8_0, hcz8_1, hcz8_2, hcz8_3, hfz8_0, hfz8_1, hfz8_2, hfz8_3⟩ := cz4 bK1; obtain ⟨hcz9_0, hcz9_1, hcz9_2, hcz9_3, hfz9_0, hfz9_1, hfz9_2, hfz9_3⟩ := cz4 bK2) | ((with_reducible refine gate_callee (f := 177) rfl ?_); refine gL 10 Try.func177 #[.agg #[.int .i64 a0_0, .int .i64 a0_1, .int .i64 a0_2, .int .i64 a0_3], .agg #[.int .i64 a1_0, .int .i64 a1_1, .int .i64 a1_2, .int .i64 a1_3]] ?_; (with_reducible refine (impl_parallel.calls a0_0 a0_1 a0_2 a0_3 a1_0 a1_1 a1_2 a1_3 t286 _ A3.out).mono ?_); rintro e w10 ⟨rfl, hb⟩; refine ⟨_, rfl, ?_⟩; replace bK1 := kb bK1 hb; replace bK2 := kb bK2 hb; replace HB := bt HB hb; (try clear hb); (try clear hb2); (try clear hk); (try clear hi)))
  go_ret
  exact fin HB
 rw [if_neg c4] at H
 have c4b0 : decide (0 ≤ t286) = false := decide_eq_false c4
 clear c4
 obtain ⟨⟨t287, t288, t289⟩, A11, H⟩ := bi H
 dsimp only at H
 obtain ⟨⟨t290, t291, t292⟩, A12, H⟩ := bi H
 dsimp only at H
 have H' := Aside0.mk H
 clear H
 go_enter Try.func164, Try.ntmps164
 try go_wp2_with (first | ((with_reducible refine gate_dst (N := 2) rfl ?_); refine box_event ?hg (N := 2) ?hd (cs := #[.int .i64 a0_0, .int .i64 a0_1, .int .i64 a0_2, .int .i64 a0_3]) (t := 23) ?hr ?_; (case hd => rfl); (case hg => rfl); (case hr => first | (go_simp; done) | (go_simp; rfl)); intro g1 hg w13 hbox hb; have bK1 := Aside0.mk (hbox); have bW1 := gx hg HB; have bE1 := gx hg HB; replace HB := bt HB hb; clear hb hbox hg) | ((with_reducible refine gate_dst (N := 3) rfl ?_); refine box_event ?hg (N := 3) ?hd (cs := #[.int .i64 a1_0, .int .i64 a1_1, .int .i64 a1_2, .int .i64 a1_3]) (t := 23) ?hr ?_; (case hd => rfl); (case hg => rfl); (case hr => first | (go_simp; done) | (go_simp; rfl)); intro g2 hg w14 hbox hb; have n0_ := kb bK1 hb; have n1_ := bt HB hb; have n2_ := Aside0.mk (hbox); have n3_ := gx hg HB; have n4_ := gx hg HB; have n5_ := nl hg bK1; have n6_ := nr hg bK1; clear bK1; clear HB; have bK1 := n0_; have HB := n1_; have bK2 := n2_; have bW2 := n3_; have bE2 := n4_; have bN1_2 := n5_; have bN2_1 := n6_; clear n0_ n1_ n2_ n3_ n4_ n5_ n6_; clear hb hbox hg; have hnb15 := bN1_2.out; have hnc15 := bN2_1.out; obtain ⟨hcz16_0, hcz16_1, hcz16_2, hcz16_3, hfz16_0, hfz16_1, hfz16_2, hfz16_3⟩ := cz4 bK1; obtain ⟨hcz17_0, hcz17_1, hcz17_2, hcz17_3, hfz17_0, hfz17_1, hfz17_2, hfz17_3⟩ := cz4 bK2) | ((with_reducible refine gate_callee (f := 177) rfl ?_); refine gL 10 Try.func177 #[.agg #[.int .i64 a0_0, .int .i64 a0_1, .int .i64 a0_2, .int .i64 a0_3], .agg #[.int .i64 a1_0, .int .i64 a1_1, .int .i64 a1_2, .int .i64 a1_3]] ?_; (with_reducible refine (impl_parallel.calls a0_0 a0_1 a0_2 a0_3 a1_0 a1_1 a1_2 a1_3 t286 _ A3.out).mono ?_); rintro e w18 ⟨rfl, hb⟩; refine ⟨_, rfl, ?_⟩; replace bK1 := kb bK1 hb; replace bK2 := kb bK2 hb; replace HB := bt HB hb; (try clear hb); (try clear hb2); (try clear hk); (try clear hi)))
 replace bK1 := Aside0.mk (blk_drew bK1.out)
 replace bK2 := Aside0.mk (blk_drew bK2.out)
 replace HB := Aside0.mk (below_drew1 HB.out)
 refine start_ (n := 8) (S := fun w' => True) (ds := []) (bl 8 0) (by kernel_rfl) rfl rfl trivial (fun hHeld => ?_); refine with_tabW impl_clash2.tab3 impl_clash2.bits3 (fun HT_ HW_ => ?_)
 generalize w18.drew = w19 at bK1 bK2 HB hHeld ⊢
 refine inv_at [0, 1, 2, 3, 4, 5, 6, 7] (fun a0_ b a w' => ∃ (g3 : Nat) (g4 : Nat) (m4_ : Value) (m5_ : Value), a = putSel a0_ b [(0, 12, .agg #[.int .i64 a0_0, .int .i64 a0_1, .int .i64 a0_2, .int .i64 a0_3]), (1, 13, .agg #[.int .i64 t287, .int .i64 t288, .int .i64 t289]), (2, 14, .agg #[.int .i64 a1_0, .int .i64 a1_1, .int .i64 a1_2, .int .i64 a1_3]), (3, 15, .agg #[.int .i64 t290, .int .i64 t291, .int .i64 t292]), (4, 5, m4_), (5, 6, m5_)] ∧ (w'.heap[g1]? = some (.cells #[.int .i64 a0_0, .int .i64 a0_1, .int .i64 a0_2, .int .i64 a0_3] 23 (0, 0))) ∧ (w'.heap[g2]? = some (.cells #[.int .i64 a1_0, .int .i64 a1_1, .int .i64 a1_2, .int .i64 a1_3] 23 (0, 0))) ∧ (Below w.heap.size w w') ∧ (b 4 = true → b 5 = true → g4 ≠ g3) ∧ (b 4 = true → b 5 = true → g3 ≠ g4) ∧ (b 4 = true → b 6 = false → w'.heap[g3]? = some (.cells #[.int .i64 0, .int .i64 0, .int .i64 0] 128 (0, 0))) ∧ (b 4 = true → w.heap.size ≤ g3) ∧ (b 4 = true → w.heap.size ≤ g3) ∧ (b 4 = true → g1 ≠ g3) ∧ (b 4 = true → g3 ≠ g1) ∧ (b 4 = true → g2 ≠ g3) ∧ (b 4 = true → g3 ≠ g2) ∧ (b 5 = true → b 7 = false → w'.heap[g4]? = some (.cells #[.int .i64 0, .int .i64 0, .int .i64 0] 128 (0, 0))) ∧ (b 5 = true → w.heap.size ≤ g4) ∧ (b 5 = true → w.heap.size ≤ g4) ∧ (b 5 = true → g1 ≠ g4) ∧ (b 5 = true → g4 ≠ g1) ∧ (b 5 = true → g2 ≠ g4) ∧ (b 5 = true → g4 ≠ g2) ∧ (b 6 = true → w'.heap[g3]? = some (.cells #[.int .i64 t287, .int .i64 t288, .int .i64 t289] 128 (0, 0))) ∧ (b 7 = true → w'.heap[g4]? = some (.cells #[.int .i64 t290, .int .i64 t291, .int .i64 t292] 128 (0, 0))) ∧ (b 4 = true → (m4_ : Value) = .pointer (some ⟨g3, 0, none⟩)) ∧ (b 5 = true → (m5_ : Value) = .pointer (some ⟨g4, 0, none⟩))) HT_.out HW_.out (by kernel_rfl) (by kernel_rfl) ?_ ?_ ?_
 ·exact ⟨0, 0, .bool false, .bool false, by simp only [putSel, Bool.false_eq_true, if_false], bK1.out, bK2.out, HB.out, fun h_ => absurd h_ (by decide), fun h_ => absurd h_ (by decide), fun h_ => absurd h_ (by decide), fun h_ => absurd h_ (by decide), fun h_ => absurd h_ (by decide), fun h_ => absurd h_ (by decide), fun h_ => absurd h_ (by decide), fun h_ => absurd h_ (by decide), fun h_ => absurd h_ (by decide), fun h_ => absurd h_ (by decide), fun h_ => absurd h_ (by decide), fun h_ => absurd h_ (by decide), fun h_ => absurd h_ (by decide), fun h_ => absurd h_ (by decide), fun h_ => absurd h_ (by decide), fun h_ => absurd h_ (by decide), fun h_ => absurd h_ (by decide), fun h_ => absurd h_ (by decide), fun h_ => absurd h_ (by decide), fun h_ => absurd h_ (by decide)⟩
 ·skip
  clear bK1 bK2 HB
  refine steps_cons ?_ ?_
  ·rintro b a w' ⟨g3, g4, m4_, m5_, ha, qK1, qK2, Q_HB, qN4_3, qN3_4, qK3, qW3, qE3, qN1_3, qN3_1, qN2_3, qN3_2, qK4, qW4, qE4, qN1_4, qN4_1, qN2_4, qN4_2, qK3_e6, qK4_e7, Q_X4_, Q_X5_⟩ hb_ hon hoff
   refine ⟨_, rfl, fun K hK => ?_⟩
   have e2 : a.tmps[2]? = some (.pointer (some ⟨g1, 0, none⟩)) := by rw [ha]; exact (putSel_off rfl).trans rfl
   replace ha := Aside0.mk ha
   have bK1 := Aside0.mk qK1
   have bK2 := Aside0.mk qK2
   have HB := Aside0.mk Q_HB
   have hc0_ : w'.cell? ⟨g1, 0, none⟩ = some (.int .i64 a0_0) := (blk_cell bK1.out 0).trans rfl
   have hc1_ : w'.cell? ⟨g1, 1, none⟩ = some (.int .i64 a0_1) := (blk_cell bK1.out 1).trans rfl
   have hc2_ : w'.cell? ⟨g1, 2, none⟩ = some (.int .i64 a0_2) := (blk_cell bK1.out 2).trans rfl
   have hc3_ : w'.cell? ⟨g1, 3, none⟩ = some (.int .i64 a0_3) := (blk_cell bK1.out 3).trans rfl
   refine value_ (w1 := w') (v := .agg #[.int .i64 a0_0, .int .i64 a0_1, .int .i64 a0_2, .int .i64 a0_3]) (by rfl) rfl ?_ ?_
   ·go_simp
    (try simp only [i64_w])
    try rfl
   refine hK.out _ _ ⟨g3, g4, m4_, m5_, (by rw [ha.out]; exact putSel_upk 0 hb_ rfl rfl rfl), qK1, qK2, Q_HB, qN4_3, qN3_4, qK3, qW3, qE3, qN1_3, qN3_1, qN2_3, qN3_2, qK4, qW4, qE4, qN1_4, qN4_1, qN2_4, qN4_2, fun h0_ => absurd ((hoff 6 (by kernel_rfl)).symm.trans h0_) (by decide), fun h0_ => absurd ((hoff 7 (by kernel_rfl)).symm.trans h0_) (by decide), Q_X4_, Q_X5_⟩
  refine steps_cons ?_ ?_
  ·rintro b a w' ⟨g3, g4, m4_, m5_, ha, qK1, qK2, Q_HB, qN4_3, qN3_4, qK3, qW3, qE3, qN1_3, qN3_1, qN2_3, qN3_2, qK4, qW4, qE4, qN1_4, qN4_1, qN2_4, qN4_2, qK3_e6, qK4_e7, Q_X4_, Q_X5_⟩ hb_ hon hoff
   refine ⟨_, rfl, fun K hK => ?_⟩
   have e12 : a.tmps[12]? = some (.agg #[.int .i64 a0_0, .int .i64 a0_1, .int .i64 a0_2, .int .i64 a0_3]) := by rw [ha]; exact putSel_on (e := (0, 12, .agg #[.int .i64 a0_0, .int .i64 a0_1, .int .i64 a0_2, .int .i64 a0_3])) 0 rfl rfl (hon 0 (by kernel_rfl)) rfl
   replace ha := Aside0.mk ha
   have bK1 := Aside0.mk qK1
   have bK2 := Aside0.mk qK2
   have HB := Aside0.mk Q_HB
   refine goes_ Try.func149 (by kernel_rfl) rfl #[.agg #[.int .i64 a0_0, .int .i64 a0_1, .int .i64 a0_2, .int .i64 a0_3]] (by rfl) rfl rfl (by first | (simp only [List.map_toArray, List.map_cons, List.map_nil, Act.eval, Array.getD_eq_getD_getElem?, Option.getD_some, e12]; done) | (simp only [List.map_toArray, List.map_cons, List.map_nil, Act.eval, Array.getD_eq_getD_getElem?, Option.getD_some, e12]; rfl)) ?_
   with_reducible refine (impl_normal.calls a0_0 a0_1 a0_2 a0_3 t287 t288 t289 _ A11.out).mono ?_
   rintro e w20 ⟨rfl, hb⟩
   refine ⟨_, rfl, ?_⟩
   have n0_ := kb bK1 hb
   have n1_ := kb bK2 hb
   have n2_ := bt HB hb
   have zK3 := fun (h0_ : b 4 = true) (h1_ : b 6 = false) => (show w20.heap[g3]? = some (.cells #[.int .i64 0, .int .i64 0, .int .i64 0] 128 (0, 0)) from by first | exact (blk_below (g := g3) (o := .cells #[.int .i64 0, .int .i64 0, .int .i64 0] 128 (0, 0)) (by (with_reducible repeat (first | refine blk_drewN ?_ _ | refine blk_drew ?_ | refine blk_alloc ?_ _)); exact (qK3 h0_ h1_)) hb))
   have zK4 := fun (h0_ : b 5 = true) (h1_ : b 7 = false) => (show w20.heap[g4]? = some (.cells #[.int .i64 0, .int .i64 0, .int .i64 0] 128 (0, 0)) from by first | exact (blk_below (g := g4) (o := .cells #[.int .i64 0, .int .i64 0, .int .i64 0] 128 (0, 0)) (by (with_reducible repeat (first | refine blk_drewN ?_ _ | refine blk_drew ?_ | refine blk_alloc ?_ _)); exact (qK4 h0_ h1_)) hb))
   clear bK1
   clear bK2
   clear HB
   have bK1 := n0_
   have bK2 := n1_
   have HB := n2_
   clear n0_ n1_ n2_
   (try clear hb)
   (try clear hb2)
   (try clear hk)
   (try clear hi)
   refine hK.out _ _ ⟨g3, g4, m4_, m5_, (by rw [ha.out]; exact putSel_upk 1 hb_ rfl rfl rfl), (kbx bK1), (kbx bK2), (hbx HB), qN4_3, qN3_4, zK3, qW3, qE3, qN1_3, qN3_1, qN2_3, qN3_2, zK4, qW4, qE4, qN1_4, qN4_1, qN2_4, qN4_2, fun h0_ => absurd ((hoff 6 (by kernel_rfl)).symm.trans h0_) (by decide), fun h0_ => absurd ((hoff 7 (by kernel_rfl)).symm.trans h0_) (by decide), Q_X4_, Q_X5_⟩
  refine steps_cons ?_ ?_
  ·rintro b a w' ⟨g3, g4, m4_, m5_, ha, qK1, qK2, Q_HB, qN4_3, qN3_4, qK3, qW3, qE3, qN1_3, qN3_1, qN2_3, qN3_2, qK4, qW4, qE4, qN1_4, qN4_1, qN2_4, qN4_2, qK3_e6, qK4_e7, Q_X4_, Q_X5_⟩ hb_ hon hoff
   refine ⟨_, rfl, fun K hK => ?_⟩
   have e3 : a.tmps[3]? = some (.pointer (some ⟨g2, 0, none⟩)) := by rw [ha]; exact (putSel_off rfl).trans rfl
   replace ha := Aside0.mk ha
   have bK1 := Aside0.mk qK1
   have bK2 := Aside0.mk qK2
   have HB := Aside0.mk Q_HB
   have hc0_ : w'.cell? ⟨g2, 0, none⟩ = some (.int .i64 a1_0) := (blk_cell bK2.out 0).trans rfl
   have hc1_ : w'.cell? ⟨g2, 1, none⟩ = some (.int .i64 a1_1) := (blk_cell bK2.out 1).trans rfl
   have hc2_ : w'.cell? ⟨g2, 2, none⟩ = some (.int .i64 a1_2) := (blk_cell bK2.out 2).trans rfl
   have hc3_ : w'.cell? ⟨g2, 3, none⟩ = some (.int .i64 a1_3) := (blk_cell bK2.out 3).trans rfl
   refine value_ (w1 := w') (v := .agg #[.int .i64 a1_0, .int .i64 a1_1, .int .i64 a1_2, .int .i64 a1_3]) (by rfl) rfl ?_ ?_
   ·go_simp
    (try simp only [i64_w])
    try rfl
   refine hK.out _ _ ⟨g3, g4, m4_, m5_, (by rw [ha.out]; exact putSel_upk 2 hb_ rfl rfl rfl), qK1, qK2, Q_HB, qN4_3, qN3_4, qK3, qW3, qE3, qN1_3, qN3_1, qN2_3, qN3_2, qK4, qW4, qE4, qN1_4, qN4_1, qN2_4, qN4_2, fun h0_ => absurd ((hoff 6 (by kernel_rfl)).symm.trans h0_) (by decide), fun h0_ => absurd ((hoff 7 (by kernel_rfl)).symm.trans h0_) (by decide), Q_X4_, Q_X5_⟩
  refine steps_cons ?_ ?_
  ·rintro b a w' ⟨g3, g4, m4_, m5_, ha, qK1, qK2, Q_HB, qN4_3, qN3_4, qK3, qW3, qE3, qN1_3, qN3_1, qN2_3, qN3_2, qK4, qW4, qE4, qN1_4, qN4_1, qN2_4, qN4_2, qK3_e6, qK4_e7, Q_X4_, Q_X5_⟩ hb_ hon hoff
   refine ⟨_, rfl, fun K hK => ?_⟩
   have e14 : a.tmps[14]? = some (.agg #[.int .i64 a1_0, .int .i64 a1_1, .int .i64 a1_2, .int .i64 a1_3]) := by rw [ha]; exact putSel_on (e := (2, 14, .agg #[.int .i64 a1_0, .int .i64 a1_1, .int .i64 a1_2, .int .i64 a1_3])) 2 rfl rfl (hon 2 (by kernel_rfl)) rfl
   replace ha := Aside0.mk ha
   have bK1 := Aside0.mk qK1
   have bK2 := Aside0.mk qK2
   have HB := Aside0.mk Q_HB
   refine goes_ Try.func149 (by kernel_rfl) rfl #[.agg #[.int .i64 a1_0, .int .i64 a1_1, .int .i64 a1_2, .int .i64 a1_3]] (by rfl) rfl rfl (by first | (simp only [List.map_toArray, List.map_cons, List.map_nil, Act.eval, Array.getD_eq_getD_getElem?, Option.getD_some, e14]; done) | (simp only [List.map_toArray, List.map_cons, List.map_nil, Act.eval, Array.getD_eq_getD_getElem?, Option.getD_some, e14]; rfl)) ?_
   with_reducible refine (impl_normal.calls a1_0 a1_1 a1_2 a1_3 t290 t291 t292 _ A12.out).mono ?_
   rintro e w22 ⟨rfl, hb⟩
   refine ⟨_, rfl, ?_⟩
   have n0_ := kb bK1 hb
   have n1_ := kb bK2 hb
   have n2_ := bt HB hb
   have zK3 := fun (h0_ : b 4 = true) (h1_ : b 6 = false) => (show w22.heap[g3]? = some (.cells #[.int .i64 0, .int .i64 0, .int .i64 0] 128 (0, 0)) from by first | exact (blk_below (g := g3) (o := .cells #[.int .i64 0, .int .i64 0, .int .i64 0] 128 (0, 0)) (by (with_reducible repeat (first | refine blk_drewN ?_ _ | refine blk_drew ?_ | refine blk_alloc ?_ _)); exact (qK3 h0_ h1_)) hb))
   have zK4 := fun (h0_ : b 5 = true) (h1_ : b 7 = false) => (show w22.heap[g4]? = some (.cells #[.int .i64 0, .int .i64 0, .int .i64 0] 128 (0, 0)) from by first | exact (blk_below (g := g4) (o := .cells #[.int .i64 0, .int .i64 0, .int .i64 0] 128 (0, 0)) (by (with_reducible repeat (first | refine blk_drewN ?_ _ | refine blk_drew ?_ | refine blk_alloc ?_ _)); exact (qK4 h0_ h1_)) hb))
   clear bK1
   clear bK2
   clear HB
   have bK1 := n0_
   have bK2 := n1_
   have HB := n2_
   clear n0_ n1_ n2_
   (try clear hb)
   (try clear hb2)
   (try clear hk)
   (try clear hi)
   refine hK.out _ _ ⟨g3, g4, m4_, m5_, (by rw [ha.out]; exact putSel_upk 3 hb_ rfl rfl rfl), (kbx bK1), (kbx bK2), (hbx HB), qN4_3, qN3_4, zK3, qW3, qE3, qN1_3, qN3_1, qN2_3, qN3_2, zK4, qW4, qE4, qN1_4, qN4_1, qN2_4, qN4_2, fun h0_ => absurd ((hoff 6 (by kernel_rfl)).symm.trans h0_) (by decide), fun h0_ => absurd ((hoff 7 (by kernel_rfl)).symm.trans h0_) (by decide), Q_X4_, Q_X5_⟩
  refine steps_cons ?_ ?_
  ·rintro b a w' ⟨g3, g4, m4_, m5_, ha, qK1, qK2, Q_HB, qN4_3, qN3_4, qK3, qW3, qE3, qN1_3, qN3_1, qN2_3, qN3_2, qK4, qW4, qE4, qN1_4, qN4_1, qN2_4, qN4_2, qK3_e6, qK4_e7, Q_X4_, Q_X5_⟩ hb_ hon hoff
   refine ⟨_, rfl, fun K hK => ?_⟩
   replace ha := Aside0.mk ha
   have bK1 := Aside0.mk qK1
   have bK2 := Aside0.mk qK2
   have HB := Aside0.mk Q_HB
   refine box_step ?hg (N := 5) ?hd (cs := #[.int .i64 0, .int .i64 0, .int .i64 0]) (t := 128) ?hr ?_; (case hd => rfl); (case hg => rfl); (case hr => first | (go_simp; done) | (go_simp; rfl))
   intro g3 hg w20 hbox hb
   have n0_ := kb bK1 hb
   have n1_ := kb bK2 hb
   have n2_ := bt HB hb
   have n3_ := Aside0.mk (hbox)
   have n4_ := gx hg HB
   have n5_ := gx hg HB
   have n6_ := nl hg bK1
   have n7_ := nr hg bK1
   have n8_ := nl hg bK2
   have n9_ := nr hg bK2
   have zN4_3 := fun (h0_ : up b 4 4 = true) (h1_ : up b 4 5 = true) => (show g4 ≠ g3 from (by cases hq_ : b 7 with | false => exact ((by rw [hg]; exact Nat.ne_of_lt (blk_lt (g := g4) (by (with_reducible repeat (first | refine blk_drewN ?_ _ | refine blk_drew ?_ | refine blk_alloc ?_ _)); exact (qK4 h1_ hq_))) : g4 ≠ g3)) | true => exact ((by rw [hg]; exact Nat.ne_of_lt (blk_lt (g := g4) (by (with_reducible repeat (first | refine blk_drewN ?_ _ | refine blk_drew ?_ | refine blk_alloc ?_ _)); exact (qK4_e7 hq_))) : g4 ≠ g3))))
   have zN3_4 := fun (h0_ : up b 4 4 = true) (h1_ : up b 4 5 = true) => (show g3 ≠ g4 from (by cases hq_ : b 7 with | false => exact ((by rw [hg]; exact Nat.ne_of_gt (blk_lt (g := g4) (by (with_reducible repeat (first | refine blk_drewN ?_ _ | refine blk_drew ?_ | refine blk_alloc ?_ _)); exact (qK4 h1_ hq_))) : g3 ≠ g4)) | true => exact ((by rw [hg]; exact Nat.ne_of_gt (blk_lt (g := g4) (by (with_reducible repeat (first | refine blk_drewN ?_ _ | refine blk_drew ?_ | refine blk_alloc ?_ _)); exact (qK4_e7 hq_))) : g3 ≠ g4))))
   have zK4 := fun (h0_ : b 5 = true) (h1_ : b 7 = false) => (show w20.heap[g4]? = some (.cells #[.int .i64 0, .int .i64 0, .int .i64 0] 128 (0, 0)) from by first | exact (blk_below (g := g4) (o := .cells #[.int .i64 0, .int .i64 0, .int .i64 0] 128 (0, 0)) (by (with_reducible repeat (first | refine blk_drewN ?_ _ | refine blk_drew ?_ | refine blk_alloc ?_ _)); exact (qK4 h0_ h1_)) hb))
   clear bK1
   clear bK2
   clear HB
   have bK1 := n0_
   have bK2 := n1_
   have HB := n2_
   have bK3 := n3_
   have bW3 := n4_
   have bE3 := n5_
   have bN1_3 := n6_
   have bN3_1 := n7_
   have bN2_3 := n8_
   have bN3_2 := n9_
   clear n0_ n1_ n2_ n3_ n4_ n5_ n6_ n7_ n8_ n9_
   clear hb hbox hg
   refine hK.out _ _ ⟨g3, g4, (.pointer (some ⟨g3, 0, none⟩)), m5_, (by rw [ha.out]; exact putSel_upk 4 hb_ rfl rfl rfl), (kbx bK1), (kbx bK2), (hbx HB), zN4_3, zN3_4, fun _ _ => (kbx bK3), fun _ => bW3.out, fun _ => bE3.out, fun _ => bN1_3.out, fun _ => bN3_1.out, fun _ => bN2_3.out, fun _ => bN3_2.out, zK4, qW4, qE4, qN1_4, qN4_1, qN2_4, qN4_2, fun h0_ => absurd ((hoff 6 (by kernel_rfl)).symm.trans h0_) (by decide), fun h0_ => absurd ((hoff 7 (by kernel_rfl)).symm.trans h0_) (by decide), fun _ => rfl, Q_X5_⟩
  refine steps_cons ?_ ?_
  ·rintro b a w' ⟨g3, g4, m4_, m5_, ha, qK1, qK2, Q_HB, qN4_3, qN3_4, qK3, qW3, qE3, qN1_3, qN3_1, qN2_3, qN3_2, qK4, qW4, qE4, qN1_4, qN4_1, qN2_4, qN4_2, qK3_e6, qK4_e7, Q_X4_, Q_X5_⟩ hb_ hon hoff
   refine ⟨_, rfl, fun K hK => ?_⟩
   replace ha := Aside0.mk ha
   have bK1 := Aside0.mk qK1
   have bK2 := Aside0.mk qK2
   have HB := Aside0.mk Q_HB
   refine box_step ?hg (N := 6) ?hd (cs := #[.int .i64 0, .int .i64 0, .int .i64 0]) (t := 128) ?hr ?_; (case hd => rfl); (case hg => rfl); (case hr => first | (go_simp; done) | (go_simp; rfl))
   intro g4 hg w20 hbox hb
   have n0_ := kb bK1 hb
   have n1_ := kb bK2 hb
   have n2_ := bt HB hb
   have n3_ := Aside0.mk (hbox)
   have n4_ := gx hg HB
   have n5_ := gx hg HB
   have n6_ := nl hg bK1
   have n7_ := nr hg bK1
   have n8_ := nl hg bK2
   have n9_ := nr hg bK2
   have zN4_3 := fun (h0_ : up b 5 4 = true) (h1_ : up b 5 5 = true) => (show g4 ≠ g3 from (by cases hq_ : b 6 with | false => exact ((by rw [hg]; exact Nat.ne_of_gt (blk_lt (g := g3) (by (with_reducible repeat (first | refine blk_drewN ?_ _ | refine blk_drew ?_ | refine blk_alloc ?_ _)); exact (qK3 h0_ hq_))) : g4 ≠ g3)) | true => exact ((by rw [hg]; exact Nat.ne_of_gt (blk_lt (g := g3) (by (with_reducible repeat (first | refine blk_drewN ?_ _ | refine blk_drew ?_ | refine blk_alloc ?_ _)); exact (qK3_e6 hq_))) : g4 ≠ g3))))
   have zN3_4 := fun (h0_ : up b 5 4 = true) (h1_ : up b 5 5 = true) => (show g3 ≠ g4 from (by cases hq_ : b 6 with | false => exact ((by rw [hg]; exact Nat.ne_of_lt (blk_lt (g := g3) (by (with_reducible repeat (first | refine blk_drewN ?_ _ | refine blk_drew ?_ | refine blk_alloc ?_ _)); exact (qK3 h0_ hq_))) : g3 ≠ g4)) | true => exact ((by rw [hg]; exact Nat.ne_of_lt (blk_lt (g := g3) (by (with_reducible repeat (first | refine blk_drewN ?_ _ | refine blk_drew ?_ | refine blk_alloc ?_ _)); exact (qK3_e6 hq_))) : g3 ≠ g4))))
   have zK3 := fun (h0_ : b 4 = true) (h1_ : b 6 = false) => (show w20.heap[g3]? = some (.cells #[.int .i64 0, .int .i64 0, .int .i64 0] 128 (0, 0)) from by first | exact (blk_below (g := g3) (o := .cells #[.int .i64 0, .int .i64 0, .int .i64 0] 128 (0, 0)) (by (with_reducible repeat (first | refine blk_drewN ?_ _ | refine blk_drew ?_ | refine blk_alloc ?_ _)); exact (qK3 h0_ h1_)) hb))
   clear bK1
   clear bK2
   clear HB
   have bK1 := n0_
   have bK2 := n1_
   have HB := n2_
   have bK4 := n3_
   have bW4 := n4_
   have bE4 := n5_
   have bN1_4 := n6_
   have bN4_1 := n7_
   have bN2_4 := n8_
   have bN4_2 := n9_
   clear n0_ n1_ n2_ n3_ n4_ n5_ n6_ n7_ n8_ n9_
   clear hb hbox hg
   refine hK.out _ _ ⟨g3, g4, m4_, (.pointer (some ⟨g4, 0, none⟩)), (by rw [ha.out]; exact putSel_upk 5 hb_ rfl rfl rfl), (kbx bK1), (kbx bK2), (hbx HB), zN4_3, zN3_4, zK3, qW3, qE3, qN1_3, qN3_1, qN2_3, qN3_2, fun _ _ => (kbx bK4), fun _ => bW4.out, fun _ => bE4.out, fun _ => bN1_4.out, fun _ => bN4_1.out, fun _ => bN2_4.out, fun _ => bN4_2.out, fun h0_ => absurd ((hoff 6 (by kernel_rfl)).symm.trans h0_) (by decide), fun h0_ => absurd ((hoff 7 (by kernel_rfl)).symm.trans h0_) (by decide), Q_X4_, fun _ => rfl⟩
  refine steps_cons ?_ ?_
  ·rintro b a w' ⟨g3, g4, m4_, m5_, ha, qK1, qK2, Q_HB, qN4_3, qN3_4, qK3, qW3, qE3, qN1_3, qN3_1, qN2_3, qN3_2, qK4, qW4, qE4, qN1_4, qN4_1, qN2_4, qN4_2, qK3_e6, qK4_e7, Q_X4_, Q_X5_⟩ hb_ hon hoff
   refine ⟨_, rfl, fun K hK => ?_⟩
   have e5 : a.tmps[5]? = some (m4_) := by rw [ha]; exact putSel_on (e := (4, 5, m4_)) 4 rfl rfl (hon 4 (by kernel_rfl)) rfl
   rw [Q_X4_ (hon 4 (by kernel_rfl))] at e5
   have e13 : a.tmps[13]? = some (.agg #[.int .i64 t287, .int .i64 t288, .int .i64 t289]) := by rw [ha]; exact putSel_on (e := (1, 13, .agg #[.int .i64 t287, .int .i64 t288, .int .i64 t289])) 1 rfl rfl (hon 1 (by kernel_rfl)) rfl
   replace ha := Aside0.mk ha
   have bK1 := Aside0.mk qK1
   have bK2 := Aside0.mk qK2
   have HB := Aside0.mk Q_HB
   have bN4_3 := Aside0.mk (qN4_3 (hon 4 (by kernel_rfl)) (hon 5 (by kernel_rfl)))
   have bN3_4 := Aside0.mk (qN3_4 (hon 4 (by kernel_rfl)) (hon 5 (by kernel_rfl)))
   have bK3 := Aside0.mk (qK3 (hon 4 (by kernel_rfl)) hb_)
   have bW3 := Aside0.mk (qW3 (hon 4 (by kernel_rfl)))
   have bE3 := Aside0.mk (qE3 (hon 4 (by kernel_rfl)))
   have bN1_3 := Aside0.mk (qN1_3 (hon 4 (by kernel_rfl)))
   have bN3_1 := Aside0.mk (qN3_1 (hon 4 (by kernel_rfl)))
   have bN2_3 := Aside0.mk (qN2_3 (hon 4 (by kernel_rfl)))
   have bN3_2 := Aside0.mk (qN3_2 (hon 4 (by kernel_rfl)))
   have bK4 := Aside0.mk (qK4 (hon 5 (by kernel_rfl)) (hoff 7 (by kernel_rfl)))
   have bW4 := Aside0.mk (qW4 (hon 5 (by kernel_rfl)))
   have bE4 := Aside0.mk (qE4 (hon 5 (by kernel_rfl)))
   have bN1_4 := Aside0.mk (qN1_4 (hon 5 (by kernel_rfl)))
   have bN4_1 := Aside0.mk (qN4_1 (hon 5 (by kernel_rfl)))
   have bN2_4 := Aside0.mk (qN2_4 (hon 5 (by kernel_rfl)))
   have bN4_2 := Aside0.mk (qN4_2 (hon 5 (by kernel_rfl)))
   have hs25 : w'.cell? ⟨g3, 0, none⟩ = some (.int .i64 0) := (blk_cell bK3.out 0).trans rfl
   have hfs25 := blk_frozen bK3.out 0
   have hns25_0 := bN1_3.out
   have hns25_1 := bN2_3.out
   have hns25_3 := bN4_3.out
   have hms25_0 := bN3_1.out
   have hms25_1 := bN3_2.out
   have hms25_3 := bN3_4.out
   have hs26 : w'.cell? ⟨g3, 1, none⟩ = some (.int .i64 0) := (blk_cell bK3.out 1).trans rfl
   have hfs26 := blk_frozen bK3.out 1
   have hns26_0 := bN1_3.out
   have hns26_1 := bN2_3.out
   have hns26_3 := bN4_3.out
   have hms26_0 := bN3_1.out
   have hms26_1 := bN3_2.out
   have hms26_3 := bN3_4.out
   have hs27 : w'.cell? ⟨g3, 2, none⟩ = some (.int .i64 0) := (blk_cell bK3.out 2).trans rfl
   have hfs27 := blk_frozen bK3.out 2
   have hns27_0 := bN1_3.out
   have hns27_1 := bN2_3.out
   have hns27_3 := bN4_3.out
   have hms27_0 := bN3_1.out
   have hms27_1 := bN3_2.out
   have hms27_3 := bN3_4.out
   refine skip_ (w1 := ?_) (by rfl) rfl ?_ ?_
   rotate_left
   ·go_simp
    rfl
   refine hK.out _ _ ⟨g3, g4, m4_, m5_, (by rw [ha.out]; exact putSel_none (v := undef) rfl), (kfx bK1), (kfx bK2), (hbx HB), fun _ _ => bN4_3.out, fun _ _ => bN3_4.out, fun _ h1_ => absurd ((up_self b 6).symm.trans h1_) (by decide), fun _ => bW3.out, fun _ => bE3.out, fun _ => bN1_3.out, fun _ => bN3_1.out, fun _ => bN2_3.out, fun _ => bN3_2.out, fun _ _ => (kfx bK4), fun _ => bW4.out, fun _ => bE4.out, fun _ => bN1_4.out, fun _ => bN4_1.out, fun _ => bN2_4.out, fun _ => bN4_2.out, fun _ => (by (with_reducible repeat (first | refine blk_drewN ?_ _ | refine blk_drew ?_ | refine blk_alloc ?_ _)); refine blk_put (cs := #[.int .i64 t287, .int .i64 t288, .int .i64 0]) ?_ 2 _ rfl; (with_reducible repeat (first | refine blk_drewN ?_ _ | refine blk_drew ?_ | refine blk_alloc ?_ _)); refine blk_put (cs := #[.int .i64 t287, .int .i64 0, .int .i64 0]) ?_ 1 _ rfl; (with_reducible repeat (first | refine blk_drewN ?_ _ | refine blk_drew ?_ | refine blk_alloc ?_ _)); refine blk_put (cs := #[.int .i64 0, .int .i64 0, .int .i64 0]) ?_ 0 _ rfl; (with_reducible repeat (first | refine blk_drewN ?_ _ | refine blk_drew ?_ | refine blk_alloc ?_ _)); exact bK3.out), fun h0_ => absurd ((hoff 7 (by kernel_rfl)).symm.trans h0_) (by decide), Q_X4_, Q_X5_⟩
  refine steps_cons ?_ ?_
  ·rintro b a w' ⟨g3, g4, m4_, m5_, ha, qK1, qK2, Q_HB, qN4_3, qN3_4, qK3, qW3, qE3, qN1_3, qN3_1, qN2_3, qN3_2, qK4, qW4, qE4, qN1_4, qN4_1, qN2_4, qN4_2, qK3_e6, qK4_e7, Q_X4_, Q_X5_⟩ hb_ hon hoff
   refine ⟨_, rfl, fun K hK => ?_⟩
   have e6 : a.tmps[6]? = some (m5_) := by rw [ha]; exact putSel_on (e := (5, 6, m5_)) 5 rfl rfl (hon 5 (by kernel_rfl)) rfl
   rw [Q_X5_ (hon 5 (by kernel_rfl))] at e6
   have e15 : a.tmps[15]? = some (.agg #[.int .i64 t290, .int .i64 t291, .int .i64 t292]) := by rw [ha]; exact putSel_on (e := (3, 15, .agg #[.int .i64 t290, .int .i64 t291, .int .i64 t292])) 3 rfl rfl (hon 3 (by kernel_rfl)) rfl
   replace ha := Aside0.mk ha
   have bK1 := Aside0.mk qK1
   have bK2 := Aside0.mk qK2
   have HB := Aside0.mk Q_HB
   have bN4_3 := Aside0.mk (qN4_3 (hon 4 (by kernel_rfl)) (hon 5 (by kernel_rfl)))
   have bN3_4 := Aside0.mk (qN3_4 (hon 4 (by kernel_rfl)) (hon 5 (by kernel_rfl)))
   have bW3 := Aside0.mk (qW3 (hon 4 (by kernel_rfl)))
   have bE3 := Aside0.mk (qE3 (hon 4 (by kernel_rfl)))
   have bN1_3 := Aside0.mk (qN1_3 (hon 4 (by kernel_rfl)))
   have bN3_1 := Aside0.mk (qN3_1 (hon 4 (by kernel_rfl)))
   have bN2_3 := Aside0.mk (qN2_3 (hon 4 (by kernel_rfl)))
   have bN3_2 := Aside0.mk (qN3_2 (hon 4 (by kernel_rfl)))
   have bK4 := Aside0.mk (qK4 (hon 5 (by kernel_rfl)) hb_)
   have bW4 := Aside0.mk (qW4 (hon 5 (by kernel_rfl)))
   have bE4 := Aside0.mk (qE4 (hon 5 (by kernel_rfl)))
   have bN1_4 := Aside0.mk (qN1_4 (hon 5 (by kernel_rfl)))
   have bN4_1 := Aside0.mk (qN4_1 (hon 5 (by kernel_rfl)))
   have bN2_4 := Aside0.mk (qN2_4 (hon 5 (by kernel_rfl)))
   have bN4_2 := Aside0.mk (qN4_2 (hon 5 (by kernel_rfl)))
   have bK3 := Aside0.mk (qK3_e6 (hon 6 (by kernel_rfl)))
   have hs28 : w'.cell? ⟨g4, 0, none⟩ = some (.int .i64 0) := (blk_cell bK4.out 0).trans rfl
   have hfs28 := blk_frozen bK4.out 0
   have hns28_0 := bN1_4.out
   have hns28_1 := bN2_4.out
   have hns28_2 := bN3_4.out
   have hms28_0 := bN4_1.out
   have hms28_1 := bN4_2.out
   have hms28_2 := bN4_3.out
   have hs29 : w'.cell? ⟨g4, 1, none⟩ = some (.int .i64 0) := (blk_cell bK4.out 1).trans rfl
   have hfs29 := blk_frozen bK4.out 1
   have hns29_0 := bN1_4.out
   have hns29_1 := bN2_4.out
   have hns29_2 := bN3_4.out
   have hms29_0 := bN4_1.out
   have hms29_1 := bN4_2.out
   have hms29_2 := bN4_3.out
   have hs30 : w'.cell? ⟨g4, 2, none⟩ = some (.int .i64 0) := (blk_cell bK4.out 2).trans rfl
   have hfs30 := blk_frozen bK4.out 2
   have hns30_0 := bN1_4.out
   have hns30_1 := bN2_4.out
   have hns30_2 := bN3_4.out
   have hms30_0 := bN4_1.out
   have hms30_1 := bN4_2.out
   have hms30_2 := bN4_3.out
   refine skip_ (w1 := ?_) (by rfl) rfl ?_ ?_
   rotate_left
   ·go_simp
    rfl
   refine hK.out _ _ ⟨g3, g4, m4_, m5_, (by rw [ha.out]; exact putSel_none (v := undef) rfl), (kfx bK1), (kfx bK2), (hbx HB), fun _ _ => bN4_3.out, fun _ _ => bN3_4.out, fun _ h1_ => absurd ((hon 6 (by kernel_rfl)).symm.trans h1_) (by decide), fun _ => bW3.out, fun _ => bE3.out, fun _ => bN1_3.out, fun _ => bN3_1.out, fun _ => bN2_3.out, fun _ => bN3_2.out, fun _ h1_ => absurd ((up_self b 7).symm.trans h1_) (by decide), fun _ => bW4.out, fun _ => bE4.out, fun _ => bN1_4.out, fun _ => bN4_1.out, fun _ => bN2_4.out, fun _ => bN4_2.out, fun _ => (kfx bK3), fun _ => (by (with_reducible repeat (first | refine blk_drewN ?_ _ | refine blk_drew ?_ | refine blk_alloc ?_ _)); refine blk_put (cs := #[.int .i64 t290, .int .i64 t291, .int .i64 0]) ?_ 2 _ rfl; (with_reducible repeat (first | refine blk_drewN ?_ _ | refine blk_drew ?_ | refine blk_alloc ?_ _)); refine blk_put (cs := #[.int .i64 t290, .int .i64 0, .int .i64 0]) ?_ 1 _ rfl; (with_reducible repeat (first | refine blk_drewN ?_ _ | refine blk_drew ?_ | refine blk_alloc ?_ _)); refine blk_put (cs := #[.int .i64 0, .int .i64 0, .int .i64 0]) ?_ 0 _ rfl; (with_reducible repeat (first | refine blk_drewN ?_ _ | refine blk_drew ?_ | refine blk_alloc ?_ _)); exact bK4.out), Q_X4_, Q_X5_⟩
  exact steps_nil
 rintro b a w30 hall ⟨g3, g4, m4_, m5_, ha, qK1, qK2, Q_HB, qN4_3, qN3_4, qK3, qW3, qE3, qN1_3, qN3_1, qN2_3, qN3_2, qK4, qW4, qE4, qN1_4, qN4_1, qN2_4, qN4_2, qK3_e6, qK4_e7, Q_X4_, Q_X5_⟩
 clear bK1 bK2 HB
 have hb0_ := hall 0 (by kernel_rfl)
 have hb1_ := hall 1 (by kernel_rfl)
 have hb2_ := hall 2 (by kernel_rfl)
 have hb3_ := hall 3 (by kernel_rfl)
 have hb4_ := hall 4 (by kernel_rfl)
 have hb5_ := hall 5 (by kernel_rfl)
 have hb6_ := hall 6 (by kernel_rfl)
 have hb7_ := hall 7 (by kernel_rfl)
 subst ha
 obtain rfl := Q_X4_ hb4_
 obtain rfl := Q_X5_ hb5_
 simp only [putSel, hb0_, hb1_, hb2_, hb3_, hb4_, hb5_, hb6_, hb7_, if_true, Act.put, List.setIfInBounds_toArray, List.set_cons_zero, List.set_cons_succ]
 have bK1 := Aside0.mk qK1
 clear qK1
 have bK2 := Aside0.mk qK2
 clear qK2
 have HB := Aside0.mk Q_HB
 clear Q_HB
 have bN4_3 := Aside0.mk (qN4_3 hb4_ hb5_)
 clear qN4_3
 have bN3_4 := Aside0.mk (qN3_4 hb4_ hb5_)
 clear qN3_4
 clear qK3
 have bW3 := Aside0.mk (qW3 hb4_)
 clear qW3
 have bE3 := Aside0.mk (qE3 hb4_)
 clear qE3
 have bN1_3 := Aside0.mk (qN1_3 hb4_)
 clear qN1_3
 have bN3_1 := Aside0.mk (qN3_1 hb4_)
 clear qN3_1
 have bN2_3 := Aside0.mk (qN2_3 hb4_)
 clear qN2_3
 have bN3_2 := Aside0.mk (qN3_2 hb4_)
 clear qN3_2
 clear qK4
 have bW4 := Aside0.mk (qW4 hb5_)
 clear qW4
 have bE4 := Aside0.mk (qE4 hb5_)
 clear qE4
 have bN1_4 := Aside0.mk (qN1_4 hb5_)
 clear qN1_4
 have bN4_1 := Aside0.mk (qN4_1 hb5_)
 clear qN4_1
 have bN2_4 := Aside0.mk (qN2_4 hb5_)
 clear qN2_4
 have bN4_2 := Aside0.mk (qN4_2 hb5_)
 clear qN4_2
 have bK3 := Aside0.mk (qK3_e6 hb6_)
 clear qK3_e6
 have bK4 := Aside0.mk (qK4_e7 hb7_)
 clear qK4_e7
 clear hall hb0_ hb1_ hb2_ hb3_ hb4_ hb5_ hb6_ hb7_
 try go_wp2
 go_loopg [16] k (fun kq v16 w' => ∃ (x16_1 : Int), v16 = .int .i64 x16_1 ∧ Aside0 (impl_clash2.l0 kq x16_1 a0_0 a0_1 a0_2 a0_3 a1_0 a1_1 a1_2 a1_3 t287 t288 t289 t290 t291 t292 = some r) ∧ Aside0 (kq ≤ k) ∧ Aside0 (w'.heap[g1]? = some (.cells #[.int .i64 a0_0, .int .i64 a0_1, .int .i64 a0_2, .int .i64 a0_3] 23 (0, 0))) ∧ Aside0 (w'.heap[g2]? = some (.cells #[.int .i64 a1_0, .int .i64 a1_1, .int .i64 a1_2, .int .i64 a1_3] 23 (0, 0))) ∧ Aside0 (w'.heap[g3]? = some (.cells #[.int .i64 t287, .int .i64 t288, .int .i64 t289] 128 (0, 0))) ∧ Aside0 (w'.heap[g4]? = some (.cells #[.int .i64 t290, .int .i64 t291, .int .i64 t292] 128 (0, 0))) ∧ Aside0 (Below w.heap.size w w'))
 case atStart => exact ⟨(0), re, H', ⟨Nat.le_refl _⟩, ⟨by (with_reducible repeat (first | refine blk_drewN ?_ _ | refine blk_drew ?_ | refine blk_alloc ?_ _)); exact bK1.out⟩, ⟨by (with_reducible repeat (first | refine blk_drewN ?_ _ | refine blk_drew ?_ | refine blk_alloc ?_ _)); exact bK2.out⟩, ⟨by (with_reducible repeat (first | refine blk_drewN ?_ _ | refine blk_drew ?_ | refine blk_alloc ?_ _)); exact bK3.out⟩, ⟨by (with_reducible repeat (first | refine blk_drewN ?_ _ | refine blk_drew ?_ | refine blk_alloc ?_ _)); exact bK4.out⟩, ⟨by repeat (first | (with_reducible first | exact HB.out | apply below_alloc | apply pw_below_drewN | apply below_drew1 | refine below_set ?_ bE1.out | refine below_set ?_ bE2.out | refine below_set ?_ bE3.out | refine below_set ?_ bE4.out) | exact HB.out)⟩⟩
 case round =>
  clear H'
  obtain ⟨x16_1, rfl, HA, HK1, bK1, bK2, bK3, bK4, HB⟩ := hrel
  cases gk with
  | zero => exact absurd HA.out (by simp [impl_clash2.l0])
  | succ k1 =>
   have H := HA.out
   clear HA
   simp only [impl_clash2.l0] at H
   by_cases c31 : x16_1 < 3
   ·rw [if_pos c31] at H
    have c31b0 : decide (x16_1 < 3) = true := decide_eq_true c31
    clear c31
    by_cases c32 : x16_1 = 0
    ·subst c32
     have H1 : (if t287 = 0 then (impl_clash2.l0 k1 (wrap64 (0 + 1)) a0_0 a0_1 a0_2 a0_3 a1_0 a1_1 a1_2 a1_3 t287 t288 t289 t290 t291 t292) else (some (decide ((wrap64 ((wrap64 (a0_3 * (mx t290 (wrap64 (-t290))))) + (wrap64 (a1_3 * (mx t287 (wrap64 (-t287))))))) ≤ 0)))) = some r := by rw [if_pos rfl] at H; exact H
     clear H
     have H := H1
     clear H1
     by_cases c33 : t287 = 0
     ·rw [if_pos c33] at H
      have c33b0 : (t287 == 0) = true := beq_iff_eq.mpr c33
      have c33b1 : (t287 != 0) = false := bne_eq_false_iff_eq.mpr c33
      clear c33
      have H' := Aside0.mk H
      clear H
      have hnb34 := bN3_1.out
      have hnc34 := bN1_3.out
      have hnb35 := bN3_2.out
      have hnc35 := bN2_3.out
      have hnb36 := bN3_4.out
      have hnc36 := bN4_3.out
      obtain ⟨hcz37_0, hcz37_1, hcz37_2, hfz37_0, hfz37_1, hfz37_2⟩ := cz3 bK3
      go_wp2
      go_roundg k1
      case measure => have := HK1.out; omega
      case rel => exact ⟨(wrap64 (0 + 1)), re, H', ⟨by have := HK1.out; omega⟩, ⟨by (with_reducible repeat (first | refine blk_drewN ?_ _ | refine blk_drew ?_ | refine blk_alloc ?_ _)); exact bK1.out⟩, ⟨by (with_reducible repeat (first | refine blk_drewN ?_ _ | refine blk_drew ?_ | refine blk_alloc ?_ _)); exact bK2.out⟩, ⟨by (with_reducible repeat (first | refine blk_drewN ?_ _ | refine blk_drew ?_ | refine blk_alloc ?_ _)); exact bK3.out⟩, ⟨by (with_reducible repeat (first | refine blk_drewN ?_ _ | refine blk_drew ?_ | refine blk_alloc ?_ _)); exact bK4.out⟩, ⟨by repeat (first | (with_reducible first | exact HB.out | apply below_alloc | apply pw_below_drewN | apply below_drew1 | refine below_set ?_ bE1.out | refine below_set ?_ bE2.out | refine below_set ?_ bE3.out | refine below_set ?_ bE4.out) | exact HB.out)⟩⟩
     rw [if_neg c33] at H
     have c33b0 : (t287 == 0) = false := beq_eq_false_iff_ne.mpr c33
     have c33b1 : (t287 != 0) = true := bne_iff_ne.mpr c33
     obtain ⟨ji38, hji38⟩ : ∃ j_ : Int, (mx t290 (wrap64 (-t290))) = j_ := ⟨_, rfl⟩
     replace H : (some (decide ((wrap64 ((wrap64 (a0_3 * (ji38))) + (wrap64 (a1_3 * (mx t287 (wrap64 (-t287))))))) ≤ 0))) = some r := by first | (rw [hji38] at H; exact H) | (simp only [hji38] at H ⊢; exact H)
     have hji38_ : (if t290 < (wrap64 (-t290)) then (wrap64 (-t290)) else t290) = ji38 := hji38
     obtain ⟨ji39, hji39⟩ : ∃ j_ : Int, (mx t287 (wrap64 (-t287))) = j_ := ⟨_, rfl⟩
     replace H : (some (decide ((wrap64 ((wrap64 (a0_3 * (ji38))) + (wrap64 (a1_3 * (ji39))))) ≤ 0))) = some r := by first | (rw [hji39] at H; exact H) | (simp only [hji39] at H ⊢; exact H)
     have hji39_ : (if t287 < (wrap64 (-t287)) then (wrap64 (-t287)) else t287) = ji39 := hji39
     obtain rfl := Option.some.inj H
     have hnb40 := bN3_1.out
     have hnc40 := bN1_3.out
     have hnb41 := bN3_2.out
     have hnc41 := bN2_3.out
     have hnb42 := bN3_4.out
     have hnc42 := bN4_3.out
     obtain ⟨hcz43_0, hcz43_1, hcz43_2, hfz43_0, hfz43_1, hfz43_2⟩ := cz3 bK3
     try go_wp2
     replace bK1 := Aside0.mk (blk_drew bK1.out)
     replace bK2 := Aside0.mk (blk_drew bK2.out)
     replace bK3 := Aside0.mk (blk_drew bK3.out)
     replace bK4 := Aside0.mk (blk_drew bK4.out)
     replace HB := Aside0.mk (below_drew1 HB.out)
     refine start_ (n := 25) (S := fun w' => w'.cell? ⟨g1, 0, none⟩ = some (.int .i64 a0_0) ∧ w'.cell? ⟨g1, 1, none⟩ = some (.int .i64 a0_1) ∧ w'.cell? ⟨g1, 2, none⟩ = some (.int .i64 a0_2) ∧ w'.cell? ⟨g1, 3, none⟩ = some (.int .i64 a0_3) ∧ w'.cell? ⟨g4, 0, none⟩ = some (.int .i64 t290) ∧ w'.cell? ⟨g4, 1, none⟩ = some (.int .i64 t291) ∧ w'.cell? ⟨g4, 2, none⟩ = some (.int .i64 t292) ∧ w'.cell? ⟨g2, 0, none⟩ = some (.int .i64 a1_0) ∧ w'.cell? ⟨g2, 1, none⟩ = some (.int .i64 a1_1) ∧ w'.cell? ⟨g2, 2, none⟩ = some (.int .i64 a1_2) ∧ w'.cell? ⟨g2, 3, none⟩ = some (.int .i64 a1_3) ∧ w'.cell? ⟨g3, 0, none⟩ = some (.int .i64 t287) ∧ w'.cell? ⟨g3, 1, none⟩ = some (.int .i64 t288) ∧ w'.cell? ⟨g3, 2, none⟩ = some (.int .i64 t289)) (ds := []) (bl 25 0) (by kernel_rfl) rfl rfl ⟨(blk_cell bK1.out 0).trans rfl, (blk_cell bK1.out 1).trans rfl, (blk_cell bK1.out 2).trans rfl, (blk_cell bK1.out 3).trans rfl, (blk_cell bK4.out 0).trans rfl, (blk_cell bK4.out 1).trans rfl, (blk_cell bK4.out 2).trans rfl, (blk_cell bK2.out 0).trans rfl, (blk_cell bK2.out 1).trans rfl, (blk_cell bK2.out 2).trans rfl, (blk_cell bK2.out 3).trans rfl, (blk_cell bK3.out 0).trans rfl, (blk_cell bK3.out 1).trans rfl, (blk_cell bK3.out 2).trans rfl⟩ (fun hHeld => ?_); refine with_tabW impl_clash2.tab8 impl_clash2.bits8 (fun HT_ HW_ => ?_)
     generalize wr.drew = w44 at bK1 bK2 bK3 bK4 HB hHeld ⊢
     refine pS 0 23 1 ?_
     refine pS 2 25 5 ?_
     refine pS 3 26 13 ?_
     refine pS 5 28 45 ?_
     refine pS 6 29 109 ?_
     refine pS 11 34 2157 ?_
     refine pS 13 36 10349 ?_
     refine pS 14 37 26733 ?_
     refine pS 16 39 92269 ?_
     refine pS 17 40 223341 ?_
     refine tS 1 24 223343 ?_
     refine tS 4 27 223359 ?_
     refine tS 7 30 223487 ?_
     refine pS 8 31 223743 ?_
     refine pS 9 32 224255 ?_
     refine pS 10 33 225279 ?_
     refine tS 12 35 229375 ?_
     refine tS 15 38 262143 ?_
     refine tS 18 41 524287 ?_
     refine pS 19 42 1048575 ?_
     refine pS 20 43 2097151 ?_
     refine pS 21 44 4194303 ?_
     refine pS 22 45 8388607 ?_
     refine pS 23 46 16777215 ?_
     refine pS 24 4 33554431 ?_
     refine done_ (done_of HT_.out (by kernel_rfl)) ?_
     try go_wp2
     go_ret
     exact ⟨by first | rfl | (simp [errW_none, errW_some] <;> rfl) | (simp only [← hji38, ← hji39]; first | rfl | (simp [errW_none, errW_some] <;> rfl)) | (simp [*, errW_none, errW_some] <;> rfl), by repeat (first | (with_reducible first | exact HB.out | apply below_alloc | apply pw_below_drewN | apply below_drew1 | refine below_set ?_ bE1.out | refine below_set ?_ bE2.out | refine below_set ?_ bE3.out | refine below_set ?_ bE4.out) | exact HB.out)⟩
    rw [if_neg c32] at H
    by_cases c45 : x16_1 = 1
    ·subst c45
     have H1 : (if t288 = 0 then (impl_clash2.l0 k1 (wrap64 (1 + 1)) a0_0 a0_1 a0_2 a0_3 a1_0 a1_1 a1_2 a1_3 t287 t288 t289 t290 t291 t292) else (some (decide ((wrap64 ((wrap64 (a0_3 * (mx t291 (wrap64 (-t291))))) + (wrap64 (a1_3 * (mx t288 (wrap64 (-t288))))))) ≤ 0)))) = some r := by rw [if_pos rfl] at H; exact H
     clear H
     have H := H1
     clear H1
     by_cases c46 : t288 = 0
     ·rw [if_pos c46] at H
      have c46b0 : (t288 == 0) = true := beq_iff_eq.mpr c46
      have c46b1 : (t288 != 0) = false := bne_eq_false_iff_eq.mpr c46
      clear c46
      have H' := Aside0.mk H
      clear H
      have hnb47 := bN3_1.out
      have hnc47 := bN1_3.out
      have hnb48 := bN3_2.out
      have hnc48 := bN2_3.out
      have hnb49 := bN3_4.out
      have hnc49 := bN4_3.out
      obtain ⟨hcz50_0, hcz50_1, hcz50_2, hfz50_0, hfz50_1, hfz50_2⟩ := cz3 bK3
      go_wp2
      go_roundg k1
      case measure => have := HK1.out; omega
      case rel => exact ⟨(wrap64 (1 + 1)), re, H', ⟨by have := HK1.out; omega⟩, ⟨by (with_reducible repeat (first | refine blk_drewN ?_ _ | refine blk_drew ?_ | refine blk_alloc ?_ _)); exact bK1.out⟩, ⟨by (with_reducible repeat (first | refine blk_drewN ?_ _ | refine blk_drew ?_ | refine blk_alloc ?_ _)); exact bK2.out⟩, ⟨by (with_reducible repeat (first | refine blk_drewN ?_ _ | refine blk_drew ?_ | refine blk_alloc ?_ _)); exact bK3.out⟩, ⟨by (with_reducible repeat (first | refine blk_drewN ?_ _ | refine blk_drew ?_ | refine blk_alloc ?_ _)); exact bK4.out⟩, ⟨by repeat (first | (with_reducible first | exact HB.out | apply below_alloc | apply pw_below_drewN | apply below_drew1 | refine below_set ?_ bE1.out | refine below_set ?_ bE2.out | refine below_set ?_ bE3.out | refine below_set ?_ bE4.out) | exact HB.out)⟩⟩
     rw [if_neg c46] at H
     have c46b0 : (t288 == 0) = false := beq_eq_false_iff_ne.mpr c46
     have c46b1 : (t288 != 0) = true := bne_iff_ne.mpr c46
     obtain ⟨ji51, hji51⟩ : ∃ j_ : Int, (mx t291 (wrap64 (-t291))) = j_ := ⟨_, rfl⟩
     replace H : (some (decide ((wrap64 ((wrap64 (a0_3 * (ji51))) + (wrap64 (a1_3 * (mx t288 (wrap64 (-t288))))))) ≤ 0))) = some r := by first | (rw [hji51] at H; exact H) | (simp only [hji51] at H ⊢; exact H)
     have hji51_ : (if t291 < (wrap64 (-t291)) then (wrap64 (-t291)) else t291) = ji51 := hji51
     obtain ⟨ji52, hji52⟩ : ∃ j_ : Int, (mx t288 (wrap64 (-t288))) = j_ := ⟨_, rfl⟩
     replace H : (some (decide ((wrap64 ((wrap64 (a0_3 * (ji51))) + (wrap64 (a1_3 * (ji52))))) ≤ 0))) = some r := by first | (rw [hji52] at H; exact H) | (simp only [hji52] at H ⊢; exact H)
     have hji52_ : (if t288 < (wrap64 (-t288)) then (wrap64 (-t288)) else t288) = ji52 := hji52
     obtain rfl := Option.some.inj H
     have hnb53 := bN3_1.out
     have hnc53 := bN1_3.out
     have hnb54 := bN3_2.out
     have hnc54 := bN2_3.out
     have hnb55 := bN3_4.out
     have hnc55 := bN4_3.out
     obtain ⟨hcz56_0, hcz56_1, hcz56_2, hfz56_0, hfz56_1, hfz56_2⟩ := cz3 bK3
     try go_wp2
     replace bK1 := Aside0.mk (blk_drew bK1.out)
     replace bK2 := Aside0.mk (blk_drew bK2.out)
     replace bK3 := Aside0.mk (blk_drew bK3.out)
     replace bK4 := Aside0.mk (blk_drew bK4.out)
     replace HB := Aside0.mk (below_drew1 HB.out)
     refine start_ (n := 25) (S := fun w' => w'.cell? ⟨g1, 0, none⟩ = some (.int .i64 a0_0) ∧ w'.cell? ⟨g1, 1, none⟩ = some (.int .i64 a0_1) ∧ w'.cell? ⟨g1, 2, none⟩ = some (.int .i64 a0_2) ∧ w'.cell? ⟨g1, 3, none⟩ = some (.int .i64 a0_3) ∧ w'.cell? ⟨g4, 0, none⟩ = some (.int .i64 t290) ∧ w'.cell? ⟨g4, 1, none⟩ = some (.int .i64 t291) ∧ w'.cell? ⟨g4, 2, none⟩ = some (.int .i64 t292) ∧ w'.cell? ⟨g2, 0, none⟩ = some (.int .i64 a1_0) ∧ w'.cell? ⟨g2, 1, none⟩ = some (.int .i64 a1_1) ∧ w'.cell? ⟨g2, 2, none⟩ = some (.int .i64 a1_2) ∧ w'.cell? ⟨g2, 3, none⟩ = some (.int .i64 a1_3) ∧ w'.cell? ⟨g3, 0, none⟩ = some (.int .i64 t287) ∧ w'.cell? ⟨g3, 1, none⟩ = some (.int .i64 t288) ∧ w'.cell? ⟨g3, 2, none⟩ = some (.int .i64 t289)) (ds := []) (bl 25 0) (by kernel_rfl) rfl rfl ⟨(blk_cell bK1.out 0).trans rfl, (blk_cell bK1.out 1).trans rfl, (blk_cell bK1.out 2).trans rfl, (blk_cell bK1.out 3).trans rfl, (blk_cell bK4.out 0).trans rfl, (blk_cell bK4.out 1).trans rfl, (blk_cell bK4.out 2).trans rfl, (blk_cell bK2.out 0).trans rfl, (blk_cell bK2.out 1).trans rfl, (blk_cell bK2.out 2).trans rfl, (blk_cell bK2.out 3).trans rfl, (blk_cell bK3.out 0).trans rfl, (blk_cell bK3.out 1).trans rfl, (blk_cell bK3.out 2).trans rfl⟩ (fun hHeld => ?_); refine with_tabW impl_clash2.tab8 impl_clash2.bits8 (fun HT_ HW_ => ?_)
     generalize wr.drew = w57 at bK1 bK2 bK3 bK4 HB hHeld ⊢
     refine pS 0 23 1 ?_
     refine pS 2 25 5 ?_
     refine pS 3 26 13 ?_
     refine pS 5 28 45 ?_
     refine pS 6 29 109 ?_
     refine pS 11 34 2157 ?_
     refine pS 13 36 10349 ?_
     refine pS 14 37 26733 ?_
     refine pS 16 39 92269 ?_
     refine pS 17 40 223341 ?_
     refine tS 1 24 223343 ?_
     refine tS 4 27 223359 ?_
     refine tS 7 30 223487 ?_
     refine pS 8 31 223743 ?_
     refine pS 9 32 224255 ?_
     refine pS 10 33 225279 ?_
     refine tS 12 35 229375 ?_
     refine tS 15 38 262143 ?_
     refine tS 18 41 524287 ?_
     refine pS 19 42 1048575 ?_
     refine pS 20 43 2097151 ?_
     refine pS 21 44 4194303 ?_
     refine pS 22 45 8388607 ?_
     refine pS 23 46 16777215 ?_
     refine pS 24 4 33554431 ?_
     refine done_ (done_of HT_.out (by kernel_rfl)) ?_
     try go_wp2
     go_ret
     exact ⟨by first | rfl | (simp [errW_none, errW_some] <;> rfl) | (simp only [← hji51, ← hji52]; first | rfl | (simp [errW_none, errW_some] <;> rfl)) | (simp [*, errW_none, errW_some] <;> rfl), by repeat (first | (with_reducible first | exact HB.out | apply below_alloc | apply pw_below_drewN | apply below_drew1 | refine below_set ?_ bE1.out | refine below_set ?_ bE2.out | refine below_set ?_ bE3.out | refine below_set ?_ bE4.out) | exact HB.out)⟩
    rw [if_neg c45] at H
    by_cases c58 : x16_1 = 2
    ·subst c58
     have H1 : (if t289 = 0 then (impl_clash2.l0 k1 (wrap64 (2 + 1)) a0_0 a0_1 a0_2 a0_3 a1_0 a1_1 a1_2 a1_3 t287 t288 t289 t290 t291 t292) else (some (decide ((wrap64 ((wrap64 (a0_3 * (mx t292 (wrap64 (-t292))))) + (wrap64 (a1_3 * (mx t289 (wrap64 (-t289))))))) ≤ 0)))) = some r := by rw [if_pos rfl] at H; exact H
     clear H
     have H := H1
     clear H1
     by_cases c59 : t289 = 0
     ·rw [if_pos c59] at H
      have c59b0 : (t289 == 0) = true := beq_iff_eq.mpr c59
      have c59b1 : (t289 != 0) = false := bne_eq_false_iff_eq.mpr c59
      clear c59
      have H' := Aside0.mk H
      clear H
      have hnb60 := bN3_1.out
      have hnc60 := bN1_3.out
      have hnb61 := bN3_2.out
      have hnc61 := bN2_3.out
      have hnb62 := bN3_4.out
      have hnc62 := bN4_3.out
      obtain ⟨hcz63_0, hcz63_1, hcz63_2, hfz63_0, hfz63_1, hfz63_2⟩ := cz3 bK3
      go_wp2
      go_roundg k1
      case measure => have := HK1.out; omega
      case rel => exact ⟨(wrap64 (2 + 1)), re, H', ⟨by have := HK1.out; omega⟩, ⟨by (with_reducible repeat (first | refine blk_drewN ?_ _ | refine blk_drew ?_ | refine blk_alloc ?_ _)); exact bK1.out⟩, ⟨by (with_reducible repeat (first | refine blk_drewN ?_ _ | refine blk_drew ?_ | refine blk_alloc ?_ _)); exact bK2.out⟩, ⟨by (with_reducible repeat (first | refine blk_drewN ?_ _ | refine blk_drew ?_ | refine blk_alloc ?_ _)); exact bK3.out⟩, ⟨by (with_reducible repeat (first | refine blk_drewN ?_ _ | refine blk_drew ?_ | refine blk_alloc ?_ _)); exact bK4.out⟩, ⟨by repeat (first | (with_reducible first | exact HB.out | apply below_alloc | apply pw_below_drewN | apply below_drew1 | refine below_set ?_ bE1.out | refine below_set ?_ bE2.out | refine below_set ?_ bE3.out | refine below_set ?_ bE4.out) | exact HB.out)⟩⟩
     rw [if_neg c59] at H
     have c59b0 : (t289 == 0) = false := beq_eq_false_iff_ne.mpr c59
     have c59b1 : (t289 != 0) = true := bne_iff_ne.mpr c59
     obtain ⟨ji64, hji64⟩ : ∃ j_ : Int, (mx t292 (wrap64 (-t292))) = j_ := ⟨_, rfl⟩
     replace H : (some (decide ((wrap64 ((wrap64 (a0_3 * (ji64))) + (wrap64 (a1_3 * (mx t289 (wrap64 (-t289))))))) ≤ 0))) = some r := by first | (rw [hji64] at H; exact H) | (simp only [hji64] at H ⊢; exact H)
     have hji64_ : (if t292 < (wrap64 (-t292)) then (wrap64 (-t292)) else t292) = ji64 := hji64
     obtain ⟨ji65, hji65⟩ : ∃ j_ : Int, (mx t289 (wrap64 (-t289))) = j_ := ⟨_, rfl⟩
     replace H : (some (decide ((wrap64 ((wrap64 (a0_3 * (ji64))) + (wrap64 (a1_3 * (ji65))))) ≤ 0))) = some r := by first | (rw [hji65] at H; exact H) | (simp only [hji65] at H ⊢; exact H)
     have hji65_ : (if t289 < (wrap64 (-t289)) then (wrap64 (-t289)) else t289) = ji65 := hji65
     obtain rfl := Option.some.inj H
     have hnb66 := bN3_1.out
     have hnc66 := bN1_3.out
     have hnb67 := bN3_2.out
     have hnc67 := bN2_3.out
     have hnb68 := bN3_4.out
     have hnc68 := bN4_3.out
     obtain ⟨hcz69_0, hcz69_1, hcz69_2, hfz69_0, hfz69_1, hfz69_2⟩ := cz3 bK3
     try go_wp2
     replace bK1 := Aside0.mk (blk_drew bK1.out)
     replace bK2 := Aside0.mk (blk_drew bK2.out)
     replace bK3 := Aside0.mk (blk_drew bK3.out)
     replace bK4 := Aside0.mk (blk_drew bK4.out)
     replace HB := Aside0.mk (below_drew1 HB.out)
     refine start_ (n := 25) (S := fun w' => w'.cell? ⟨g1, 0, none⟩ = some (.int .i64 a0_0) ∧ w'.cell? ⟨g1, 1, none⟩ = some (.int .i64 a0_1) ∧ w'.cell? ⟨g1, 2, none⟩ = some (.int .i64 a0_2) ∧ w'.cell? ⟨g1, 3, none⟩ = some (.int .i64 a0_3) ∧ w'.cell? ⟨g4, 0, none⟩ = some (.int .i64 t290) ∧ w'.cell? ⟨g4, 1, none⟩ = some (.int .i64 t291) ∧ w'.cell? ⟨g4, 2, none⟩ = some (.int .i64 t292) ∧ w'.cell? ⟨g2, 0, none⟩ = some (.int .i64 a1_0) ∧ w'.cell? ⟨g2, 1, none⟩ = some (.int .i64 a1_1) ∧ w'.cell? ⟨g2, 2, none⟩ = some (.int .i64 a1_2) ∧ w'.cell? ⟨g2, 3, none⟩ = some (.int .i64 a1_3) ∧ w'.cell? ⟨g3, 0, none⟩ = some (.int .i64 t287) ∧ w'.cell? ⟨g3, 1, none⟩ = some (.int .i64 t288) ∧ w'.cell? ⟨g3, 2, none⟩ = some (.int .i64 t289)) (ds := []) (bl 25 0) (by kernel_rfl) rfl rfl ⟨(blk_cell bK1.out 0).trans rfl, (blk_cell bK1.out 1).trans rfl, (blk_cell bK1.out 2).trans rfl, (blk_cell bK1.out 3).trans rfl, (blk_cell bK4.out 0).trans rfl, (blk_cell bK4.out 1).trans rfl, (blk_cell bK4.out 2).trans rfl, (blk_cell bK2.out 0).trans rfl, (blk_cell bK2.out 1).trans rfl, (blk_cell bK2.out 2).trans rfl, (blk_cell bK2.out 3).trans rfl, (blk_cell bK3.out 0).trans rfl, (blk_cell bK3.out 1).trans rfl, (blk_cell bK3.out 2).trans rfl⟩ (fun hHeld => ?_); refine with_tabW impl_clash2.tab8 impl_clash2.bits8 (fun HT_ HW_ => ?_)
     generalize wr.drew = w70 at bK1 bK2 bK3 bK4 HB hHeld ⊢
     refine pS 0 23 1 ?_
     refine pS 2 25 5 ?_
     refine pS 3 26 13 ?_
     refine pS 5 28 45 ?_
     refine pS 6 29 109 ?_
     refine pS 11 34 2157 ?_
     refine pS 13 36 10349 ?_
     refine pS 14 37 26733 ?_
     refine pS 16 39 92269 ?_
     refine pS 17 40 223341 ?_
     refine tS 1 24 223343 ?_
     refine tS 4 27 223359 ?_
     refine tS 7 30 223487 ?_
     refine pS 8 31 223743 ?_
     refine pS 9 32 224255 ?_
     refine pS 10 33 225279 ?_
     refine tS 12 35 229375 ?_
     refine tS 15 38 262143 ?_
     refine tS 18 41 524287 ?_
     refine pS 19 42 1048575 ?_
     refine pS 20 43 2097151 ?_
     refine pS 21 44 4194303 ?_
     refine pS 22 45 8388607 ?_
     refine pS 23 46 16777215 ?_
     refine pS 24 4 33554431 ?_
     refine done_ (done_of HT_.out (by kernel_rfl)) ?_
     try go_wp2
     go_ret
     exact ⟨by first | rfl | (simp [errW_none, errW_some] <;> rfl) | (simp only [← hji64, ← hji65]; first | rfl | (simp [errW_none, errW_some] <;> rfl)) | (simp [*, errW_none, errW_some] <;> rfl), by repeat (first | (with_reducible first | exact HB.out | apply below_alloc | apply pw_below_drewN | apply below_drew1 | refine below_set ?_ bE1.out | refine below_set ?_ bE2.out | refine below_set ?_ bE3.out | refine below_set ?_ bE4.out) | exact HB.out)⟩
    rw [if_neg c58] at H
    exact absurd H (by simp)
   rw [if_neg c31] at H
   have c31b0 : decide (x16_1 < 3) = false := decide_eq_false c31
   clear c31
   obtain rfl := Option.some.inj H
   go_wp2
   go_ret
   exact fin HB

end Go.Proofs.Ytndedincanmaeaa.Print
