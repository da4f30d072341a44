-- Printed by a program of the session (mkprinter.py, over the kit's print); Lean checks it.
import Derived.Test.YtndedincanmaeaaCp
import Derived.Test.YtndedincanmaeaaPrint0
import Derived.Test.YtndedincanmaeaaPrint10
import Derived.Test.YtndedincanmaeaaPrint18
namespace Go.Proofs.Ytndedincanmaeaa.Print
open Go.RowKit Go.Proofs.YtndedincanmaeaaW.PrintWords Go.Proofs.YtndedincanmaeaaW.PrintLast Go.Proofs.Ytndedincanmaeaa.Cp
set_option linter.unusedVariables false
set_option linter.unusedSimpArgs false

/-! ### spec_OpenWith: function 43 -/
def spec_OpenWith.f (k : Nat) (l0 : List (S23)) (a1_0 : Int) (a1_1 : Int) (a1_2 : Int) (a1_3 : Int) : Option (Bool) := (some (([] : List (S23)) : List (S23))).bind fun y417 => (if y417.length + l0.length < 4398046511104 then ((some (y417 ++ l0 : List (S23))).bind fun y420 => ((some (([(⟨a1_0, a1_1, a1_2, a1_3⟩ : S23)] : List (S23)) : List (S23))).bind fun y423 => (if y420.length + y423.length < 4398046511104 then ((spec_Open.f k (y420 ++ y423)).bind fun t429 => (some t429)) else (none)))) else (none))
theorem spec_OpenWith.mono : ∀ a0 a1 a2 a3 a4 k, LeO (spec_OpenWith.f k a0 a1 a2 a3 a4) (spec_OpenWith.f (k + 1) a0 a1 a2 a3 a4) := by
 intro a0 a1 a2 a3 a4 k
 unfold spec_OpenWith.f
 repeat' first
   | (with_reducible exact spec_Open.mono _ _)
   | (with_reducible exact LeO.refl _)
   | (with_reducible exact LeO.none _)
   | (with_reducible refine LeO.ite ?_ ?_)
   | (with_reducible refine LeO.bind ?_ (fun _ => ?_))
   | exact spec_Open.mono _ _
   | exact LeO.none _
   | refine LeO.ite ?_ ?_
   | refine LeO.bind ?_ (fun _ => ?_)
def spec_OpenWith.T1 : Bool × List (List Nat × List Nat) := (true, [([], []), ([], []), ([0, 1], [0, 1]), ([], []), ([3], [3]), ([2, 4, 2], [2, 4]), ([5, 5], [5]), ([6, 6, 0, 1, 2, 3, 4, 5, 6], [6])])
def spec_OpenWith.B1 : List Nat := [0, 0, 3, 0, 8, 31, 63, 127]
theorem spec_OpenWith.tab1 : rtab .any (opsOf Try.f43 1) = spec_OpenWith.T1 := by kernel_rfl
theorem spec_OpenWith.bits1 : waitsOk spec_OpenWith.T1.2 spec_OpenWith.B1 = true := by kernel_rfl
set_option maxHeartbeats 8000000 in
set_option maxRecDepth 100000 in
theorem spec_OpenWith.calls (k : Nat) (A0 : Option Addr) (c0 : Nat) (l0 : List (S23)) (a1_0 : Int) (a1_1 : Int) (a1_2 : Int) (a1_3 : Int) (r : Bool) (w : World) (hr0 : Kd.C k23 w A0 l0.length l0) (hc0 : l0.length ≤ c0) (h : spec_OpenWith.f k l0 a1_0 a1_1 a1_2 a1_3 = some r) :
  Calls Try.prog 43 #[.slice A0 l0.length c0, .agg #[.int .i64 a1_0, .int .i64 a1_1, .int .i64 a1_2, .int .i64 a1_3]] w fun e w' => e = .returned (.bool r) ∧ Below w.heap.size w w' := by
 have hu23 := Try.underlying23
 have HR0 := Aside0.mk hr0
 have HC0 := Aside0.mk hc0
 clear hr0 hc0
 have HB := Aside0.mk (Below.refl w.heap.size w)
 have H : ((some (([] : List (S23)) : List (S23))).bind fun y417 => (if y417.length + l0.length < 4398046511104 then ((some (y417 ++ l0 : List (S23))).bind fun y420 => ((some (([(⟨a1_0, a1_1, a1_2, a1_3⟩ : S23)] : List (S23)) : List (S23))).bind fun y423 => (if y420.length + y423.length < 4398046511104 then ((spec_Open.f k (y420 ++ y423)).bind fun t429 => (some t429)) else (none)))) else (none))) = some r := h
 clear h
 obtain ⟨y417, hy417⟩ : ∃ y_ : List (S23), y_ = (([] : List (S23))) := ⟨_, rfl⟩
 replace H : (if y417.length + l0.length < 4398046511104 then ((some (y417 ++ l0 : List (S23))).bind fun y420 => ((some (([(⟨a1_0, a1_1, a1_2, a1_3⟩ : S23)] : List (S23)) : List (S23))).bind fun y423 => (if y420.length + y423.length < 4398046511104 then ((spec_Open.f k (y420 ++ y423)).bind fun t429 => (some t429)) else (none)))) else (none)) = some r := by first | (rw [hy417]; with_reducible exact H) | (have H2_ := (Option.bind_some _ _).symm.trans H; rw [hy417]; with_reducible exact H2_) | (have H2_ := (Option.bind_some _ _).symm.trans H; with_reducible exact H2_) | with_reducible exact H | (rw [hy417]; exact H) | exact H
 have Ny417 := Aside0.mk hy417
 clear hy417
 by_cases c3 : y417.length + l0.length < 4398046511104
 ·rw [if_pos c3] at H
  have LMc3 := Aside0.mk c3
  clear c3
  obtain ⟨y420, hy420⟩ : ∃ y_ : List (S23), y_ = (y417 ++ l0) := ⟨_, rfl⟩
  replace H : ((some (([(⟨a1_0, a1_1, a1_2, a1_3⟩ : S23)] : List (S23)) : List (S23))).bind fun y423 => (if y420.length + y423.length < 4398046511104 then ((spec_Open.f k (y420 ++ y423)).bind fun t429 => (some t429)) else (none))) = some r := by first | (rw [hy420]; with_reducible exact H) | (have H2_ := (Option.bind_some _ _).symm.trans H; rw [hy420]; with_reducible exact H2_) | (have H2_ := (Option.bind_some _ _).symm.trans H; with_reducible exact H2_) | with_reducible exact H | (rw [hy420]; exact H) | exact H
  have Ny420 := Aside0.mk hy420
  clear hy420
  obtain ⟨y423, hy423⟩ : ∃ y_ : List (S23), y_ = (([(⟨a1_0, a1_1, a1_2, a1_3⟩ : S23)] : List (S23))) := ⟨_, rfl⟩
  replace H : (if y420.length + y423.length < 4398046511104 then ((spec_Open.f k (y420 ++ y423)).bind fun t429 => (some t429)) else (none)) = some r := by first | (rw [hy423]; with_reducible exact H) | (have H2_ := (Option.bind_some _ _).symm.trans H; rw [hy423]; with_reducible exact H2_) | (have H2_ := (Option.bind_some _ _).symm.trans H; with_reducible exact H2_) | with_reducible exact H | (rw [hy423]; exact H) | exact H
  have Ny423 := Aside0.mk hy423
  clear hy423
  by_cases c4 : y420.length + y423.length < 4398046511104
  ·rw [if_pos c4] at H
   have LMc4 := Aside0.mk c4
   clear c4
   obtain ⟨y426, hy426⟩ : ∃ y_ : List (S23), y_ = (y420 ++ y423) := ⟨_, rfl⟩
   replace H : ((spec_Open.f k y426).bind fun t429 => (some t429)) = some r := by first | (rw [hy426]; with_reducible exact H) | (have H2_ := (Option.bind_some _ _).symm.trans H; rw [hy426]; with_reducible exact H2_) | (have H2_ := (Option.bind_some _ _).symm.trans H; with_reducible exact H2_) | with_reducible exact H | (rw [hy426]; exact H) | exact H
   have Ny426 := Aside0.mk hy426
   clear hy426
   obtain ⟨t429, A5, H⟩ := bi H
   obtain rfl := Option.some.inj H
   go_enter Try.func43, Try.ntmps43
   try go_wp2_with (first | ((with_reducible refine gate_dst (N := 3) rfl ?_); refine box_event ?hg (N := 3) ?hd (cs := #[.int .i64 a1_0, .int .i64 a1_1, .int .i64 a1_2, .int .i64 a1_3]) (t := 23) ?hr ?_; (case hd => rfl); (case hg => rfl); (case hr => first | (go_simp; done) | (go_simp; rfl)); intro gb416 hg w6 hbox hb; have n0_ := bt HB hb; have n1_ := Aside0.mk (hbox); have n2_ := gx hg HB; have n3_ := gx hg HB; clear HB; have HB := n0_; have BK416 := n1_; have GW416 := n2_; have GE416 := n3_; clear n0_ n1_ n2_ n3_; clear hb hbox hg))
   have n0_ := Aside0.mk (blk_drew BK416.out)
   have n1_ := Aside0.mk (below_drew1 HB.out)
   clear BK416
   clear HB
   have BK416 := n0_
   have HB := n1_
   clear n0_ n1_
   refine start_ (n := 8) (S := fun w' => w'.cell? ⟨gb416, 0, none⟩ = some (.int .i64 a1_0) ∧ w'.cell? ⟨gb416, 1, none⟩ = some (.int .i64 a1_1) ∧ w'.cell? ⟨gb416, 2, none⟩ = some (.int .i64 a1_2) ∧ w'.cell? ⟨gb416, 3, none⟩ = some (.int .i64 a1_3)) (ds := []) (bl 8 0) (by kernel_rfl) rfl rfl ⟨(blk_cell BK416.out 0).trans rfl, (blk_cell BK416.out 1).trans rfl, (blk_cell BK416.out 2).trans rfl, (blk_cell BK416.out 3).trans rfl⟩ (fun hHeld => ?_); refine with_tabW spec_OpenWith.tab1 spec_OpenWith.bits1 (fun HT_ HW_ => ?_)
   generalize w6.drew = w7 at BK416 HB hHeld ⊢
   refine pS 1 6 2 ?_
   refine tS 3 8 10 ?_
   refine join_ (σ := Value × Value × Value) 3 (bl 8 31) (fun s_ => [(5, s_.1), (7, s_.2.1), (9, s_.2.2)]) (fun s_ w' => (w'.cell? ⟨gb416, 0, none⟩ = some (.int .i64 a1_0) ∧ w'.cell? ⟨gb416, 1, none⟩ = some (.int .i64 a1_1) ∧ w'.cell? ⟨gb416, 2, none⟩ = some (.int .i64 a1_2) ∧ w'.cell? ⟨gb416, 3, none⟩ = some (.int .i64 a1_3)) ∧ (Kd.R k23 23 w' w.heap.size (fun k_ => some k_ ≠ (s_.2.2 : Value).ownBlock ∧ k_ ≠ gb416) s_.2.1 y420) ∧ (Kd.R k23 23 w' w.heap.size (fun k_ => some k_ ≠ (s_.2.1 : Value).ownBlock ∧ k_ ≠ gb416) s_.2.2 y423) ∧ (w'.heap[gb416]? = some (.cells #[.int .i64 a1_0, .int .i64 a1_1, .int .i64 a1_2, .int .i64 a1_3] 23 (0, 0))) ∧ (Below w.heap.size w w')) ?_ ?_
   rotate_left
   ·intro hCont
    refine two_ (i := 0) (j := 4) (Ni := some 5) (Nj := some 9) (bl 8 11) (bl 8 26) rfl rfl rfl rfl (two_of HT_.out (by kernel_rfl)) (by decide) (by decide) (fun K hK => ?_) (fun K hK => ?_)
    ·skip
     refine Kd.R_lit_step k23 _ 23 ?hg (N := 5) ?hd (xs := ([] : List (S23))) (inner := []) (ok := fun _ => True) (okp := fun _ => True) ?hr ?hp (fun _ hk => hk) trivial (Below.refl _ _) (Nat.le_refl _) (by simp) ?_; (case hd => rfl); (case hg => rfl); (case hr => first | (go_simp; done) | (go_simp; rfl)); (case hp => exact (Reps.none _ _))
     intro v418 w8 ho9 hb hg_ hnew_
     clear hg_ hnew_
     (first | rw [← Ny417.out] at ho9 | (simp only [Int.reduceToNat] at ho9; rw [← Ny417.out] at ho9))
     have n0_ := Aside0.mk (Kd.R_lower (Kd.R_newB ho9 (g := gb416) (o := .cells #[.int .i64 a1_0, .int .i64 a1_1, .int .i64 a1_2, .int .i64 a1_3] 23 (0, 0)) (kbx BK416)) (below_size (hbx HB)))
     have n1_ := kb BK416 hb
     have n2_ := bt HB hb
     clear BK416
     clear HB
     have HO419 := n0_
     have BK416 := n1_
     have HB := n2_
     clear n0_ n1_ n2_
     clear hb ho9
     refine ko hK (fun hHeld => ?_)
     clear hK K
     refine nm 5 ?_
     refine two_ (i := 2) (j := 4) (Ni := some 7) (Nj := some 9) (bl 8 15) (bl 8 27) rfl rfl rfl rfl (two_of HT_.out (by kernel_rfl)) (by decide) (by decide) (fun K hK => ?_) (fun K hK => ?_)
     ·skip
      refine Kd.R_append_rows_step k23 (w0 := w) w.heap.size (by rfl) (.tmp 5) (.tmp 6) 53 23 (.agg #[(.int .i64 0), (.int .i64 0), (.int .i64 0), (.int .i64 0)]) 32 rfl Try.underlying53 info23 rfl (by decide) (by omega) v418 y417 l0 _ _ _ (fun k_ => k_ ≠ gb416) (fun _ => False) rfl rfl ?aO ?aR (fun _ _ h => h) (fun _ h => h.elim) ?aF ?aB ?aS ?aL ?_
      (case aR => repeat (first | exact (Kd.C_below HR0.out HB.out) | (with_reducible refine Kd.C_alloc ?_ _) | (with_reducible refine Kd.C_drewN ?_ _) | (with_reducible refine Kd.C_drew ?_)))
      (case aB => exact (hbx HB))
      (case aF => exact (fun k_ hk => Kd.freshB (g := gb416) (o := .cells #[.int .i64 a1_0, .int .i64 a1_1, .int .i64 a1_2, .int .i64 a1_3] 23 (0, 0)) (kbx BK416) k_ hk))
      (case aO => exact (by (with_reducible repeat (first | apply Kd.R_alloc | apply Kd.R_drewN | apply Kd.R_drew)); exact Kd.R_mono HO419.out (fun _ hk => hk.2)))
      (case aS => exact (below_size (hbx HB)))
      (case aL => have := LMc3.out; omega)
      intro v421 w10 ho hb hg hat
      rw [← Ny420.out] at ho
      have n0_ := Aside0.mk (blk_grown (g := gb416) (o := .cells #[.int .i64 a1_0, .int .i64 a1_1, .int .i64 a1_2, .int .i64 a1_3] 23 (0, 0)) (kbx BK416) hg (Kd.R_away HO419.out (fun _ hk => hk.2)))
      have n1_ := Aside0.mk (hb)
      have n2_ := Aside0.mk (ho)
      clear BK416
      clear HB
      clear HO419
      have BK416 := n0_
      have HB := n1_
      have HO422 := n2_
      clear n0_ n1_ n2_
      clear ho hb hg hat
      refine ko hK (fun hHeld => ?_)
      clear hK K
      refine nm 7 ?_
      refine oS 4 9 31 (fun K hK => ?_)
      refine Kd.R_lit_step k23 _ 23 ?hg (N := 9) ?hd (xs := ([(⟨a1_0, a1_1, a1_2, a1_3⟩ : S23)] : List (S23))) (inner := [.int .i64 a1_0, .int .i64 a1_1, .int .i64 a1_2, .int .i64 a1_3]) (ok := fun _ => True) (okp := fun _ => True) ?hr ?hp (fun _ hk => hk) trivial (Below.refl _ _) (Nat.le_refl _) (by simp) ?_; (case hd => rfl); (case hg => rfl); (case hr => first | (go_simp; done) | (go_simp; rfl)); (case hp => exact (Reps.c4 (show Kd.M k23 _ _ _ (⟨a1_0, a1_1, a1_2, a1_3⟩ : S23) [.int .i64 a1_0, .int .i64 a1_1, .int .i64 a1_2, .int .i64 a1_3] from (k23_mkM _ _ _ (⟨a1_0, a1_1, a1_2, a1_3⟩ : S23) )) (Reps.none _ _)))
      intro v424 w11 ho12 hb hg_ hnew_
      clear hg_ hnew_
      (first | rw [← Ny423.out] at ho12 | (simp only [Int.reduceToNat] at ho12; rw [← Ny423.out] at ho12))
      have n0_ := Aside0.mk (Kd.R_elder' (by (with_reducible repeat (first | apply Kd.R_alloc | apply Kd.R_drewN | apply Kd.R_drew)); exact HO422.out) (Kd.R_base ho12) hb)
      have n1_ := Aside0.mk (Kd.R_lower (Kd.R_newB (Kd.R_new' ho12 (Kd.R_lt (by (with_reducible repeat (first | apply Kd.R_alloc | apply Kd.R_drewN | apply Kd.R_drew)); exact HO422.out))) (g := gb416) (o := .cells #[.int .i64 a1_0, .int .i64 a1_1, .int .i64 a1_2, .int .i64 a1_3] 23 (0, 0)) (kbx BK416)) (below_size (hbx HB)))
      have n2_ := kb BK416 hb
      have n3_ := bt HB hb
      clear HO422
      clear BK416
      clear HB
      have HO422 := n0_
      have HO425 := n1_
      have BK416 := n2_
      have HB := n3_
      clear n0_ n1_ n2_ n3_
      clear hb ho12
      refine ko hK (fun hHeld => ?_)
      clear hK K
      refine nm 9 ?_
      exact norm_ (by simp only [putAll, Act.put, List.setIfInBounds_toArray, List.set_cons_zero, List.set_cons_succ]) (hCont (v418, v421, v424) _ ⟨hHeld, (by (with_reducible repeat (first | apply Kd.R_alloc | apply Kd.R_drewN | apply Kd.R_drew)); exact Kd.R_mono HO422.out (fun _ hk => ⟨hk.2, hk.1⟩)), (by (with_reducible repeat (first | apply Kd.R_alloc | apply Kd.R_drewN | apply Kd.R_drew)); exact Kd.R_mono HO425.out (fun _ hk => ⟨hk.1.2, hk.2⟩)), (kbx BK416), (hbx HB)⟩)
     ·skip
      refine Kd.R_lit_step k23 _ 23 ?hg (N := 9) ?hd (xs := ([(⟨a1_0, a1_1, a1_2, a1_3⟩ : S23)] : List (S23))) (inner := [.int .i64 a1_0, .int .i64 a1_1, .int .i64 a1_2, .int .i64 a1_3]) (ok := fun _ => True) (okp := fun _ => True) ?hr ?hp (fun _ hk => hk) trivial (Below.refl _ _) (Nat.le_refl _) (by simp) ?_; (case hd => rfl); (case hg => rfl); (case hr => first | (go_simp; done) | (go_simp; rfl)); (case hp => exact (Reps.c4 (show Kd.M k23 _ _ _ (⟨a1_0, a1_1, a1_2, a1_3⟩ : S23) [.int .i64 a1_0, .int .i64 a1_1, .int .i64 a1_2, .int .i64 a1_3] from (k23_mkM _ _ _ (⟨a1_0, a1_1, a1_2, a1_3⟩ : S23) )) (Reps.none _ _)))
      intro v424 w10 ho11 hb hg_ hnew_
      clear hg_ hnew_
      (first | rw [← Ny423.out] at ho11 | (simp only [Int.reduceToNat] at ho11; rw [← Ny423.out] at ho11))
      have n0_ := Aside0.mk (Kd.R_elder' (by (with_reducible repeat (first | apply Kd.R_alloc | apply Kd.R_drewN | apply Kd.R_drew)); exact HO419.out) (Kd.R_base ho11) hb)
      have n1_ := Aside0.mk (Kd.R_lower (Kd.R_newB (Kd.R_new' ho11 (Kd.R_lt (by (with_reducible repeat (first | apply Kd.R_alloc | apply Kd.R_drewN | apply Kd.R_drew)); exact HO419.out))) (g := gb416) (o := .cells #[.int .i64 a1_0, .int .i64 a1_1, .int .i64 a1_2, .int .i64 a1_3] 23 (0, 0)) (kbx BK416)) (below_size (hbx HB)))
      have n2_ := kb BK416 hb
      have n3_ := bt HB hb
      clear HO419
      clear BK416
      clear HB
      have HO419 := n0_
      have HO425 := n1_
      have BK416 := n2_
      have HB := n3_
      clear n0_ n1_ n2_ n3_
      clear hb ho11
      refine ko hK (fun hHeld => ?_)
      clear hK K
      refine nm 9 ?_
      refine oS 2 7 31 (fun K hK => ?_)
      refine Kd.R_append_rows_step k23 (w0 := w) w.heap.size (by rfl) (.tmp 5) (.tmp 6) 53 23 (.agg #[(.int .i64 0), (.int .i64 0), (.int .i64 0), (.int .i64 0)]) 32 rfl Try.underlying53 info23 rfl (by decide) (by omega) v418 y417 l0 _ _ _ (fun k_ => some k_ ≠ (v424 : Value).ownBlock ∧ k_ ≠ gb416) (fun _ => False) rfl rfl ?aO ?aR (fun _ _ h => h) (fun _ h => h.elim) ?aF ?aB ?aS ?aL ?_
      (case aR => repeat (first | exact (Kd.C_below HR0.out HB.out) | (with_reducible refine Kd.C_alloc ?_ _) | (with_reducible refine Kd.C_drewN ?_ _) | (with_reducible refine Kd.C_drew ?_)))
      (case aB => exact (hbx HB))
      (case aF => exact (fun k_ hk => ⟨Kd.fresh' (Kd.R_lt (by (with_reducible repeat (first | apply Kd.R_alloc | apply Kd.R_drewN | apply Kd.R_drew)); exact HO425.out)) k_ hk, Kd.freshB (g := gb416) (o := .cells #[.int .i64 a1_0, .int .i64 a1_1, .int .i64 a1_2, .int .i64 a1_3] 23 (0, 0)) (kbx BK416) k_ hk⟩))
      (case aO => exact (by (with_reducible repeat (first | apply Kd.R_alloc | apply Kd.R_drewN | apply Kd.R_drew)); exact Kd.R_mono HO419.out (fun _ hk => ⟨hk.2, hk.1.2⟩)))
      (case aS => exact (below_size (hbx HB)))
      (case aL => have := LMc3.out; omega)
      intro v421 w12 ho hb hg hat
      rw [← Ny420.out] at ho
      have n0_ := Aside0.mk (blk_grown (g := gb416) (o := .cells #[.int .i64 a1_0, .int .i64 a1_1, .int .i64 a1_2, .int .i64 a1_3] 23 (0, 0)) (kbx BK416) hg (Kd.R_away HO419.out (fun _ hk => hk.1.2)))
      have n1_ := Aside0.mk (Kd.R_after (ok := (fun k_ => k_ ≠ gb416)) (by (with_reducible repeat (first | apply Kd.R_alloc | apply Kd.R_drewN | apply Kd.R_drew)); exact Kd.R_mono HO425.out (fun _ hk => ⟨hk.2, hk.1.2⟩)) hg hat)
      have n2_ := Aside0.mk (hb)
      have n3_ := Aside0.mk (ho)
      clear BK416
      clear HO425
      clear HB
      clear HO419
      have BK416 := n0_
      have HO425 := n1_
      have HB := n2_
      have HO422 := n3_
      clear n0_ n1_ n2_ n3_
      clear ho hb hg hat
      refine ko hK (fun hHeld => ?_)
      clear hK K
      refine nm 7 ?_
      exact norm_ (by simp only [putAll, Act.put, List.setIfInBounds_toArray, List.set_cons_zero, List.set_cons_succ]) (hCont (v418, v421, v424) _ ⟨hHeld, (by (with_reducible repeat (first | apply Kd.R_alloc | apply Kd.R_drewN | apply Kd.R_drew)); exact HO422.out), (by (with_reducible repeat (first | apply Kd.R_alloc | apply Kd.R_drewN | apply Kd.R_drew)); exact Kd.R_mono HO425.out (fun _ hk => ⟨hk.2, hk.1⟩)), (kbx BK416), (hbx HB)⟩)
    ·skip
     refine Kd.R_lit_step k23 _ 23 ?hg (N := 9) ?hd (xs := ([(⟨a1_0, a1_1, a1_2, a1_3⟩ : S23)] : List (S23))) (inner := [.int .i64 a1_0, .int .i64 a1_1, .int .i64 a1_2, .int .i64 a1_3]) (ok := fun _ => True) (okp := fun _ => True) ?hr ?hp (fun _ hk => hk) trivial (Below.refl _ _) (Nat.le_refl _) (by simp) ?_; (case hd => rfl); (case hg => rfl); (case hr => first | (go_simp; done) | (go_simp; rfl)); (case hp => exact (Reps.c4 (show Kd.M k23 _ _ _ (⟨a1_0, a1_1, a1_2, a1_3⟩ : S23) [.int .i64 a1_0, .int .i64 a1_1, .int .i64 a1_2, .int .i64 a1_3] from (k23_mkM _ _ _ (⟨a1_0, a1_1, a1_2, a1_3⟩ : S23) )) (Reps.none _ _)))
     intro v424 w8 ho9 hb hg_ hnew_
     clear hg_ hnew_
     (first | rw [← Ny423.out] at ho9 | (simp only [Int.reduceToNat] at ho9; rw [← Ny423.out] at ho9))
     have n0_ := Aside0.mk (Kd.R_lower (Kd.R_newB ho9 (g := gb416) (o := .cells #[.int .i64 a1_0, .int .i64 a1_1, .int .i64 a1_2, .int .i64 a1_3] 23 (0, 0)) (kbx BK416)) (below_size (hbx HB)))
     have n1_ := kb BK416 hb
     have n2_ := bt HB hb
     clear BK416
     clear HB
     have HO425 := n0_
     have BK416 := n1_
     have HB := n2_
     clear n0_ n1_ n2_
     clear hb ho9
     refine ko hK (fun hHeld => ?_)
     clear hK K
     refine nm 9 ?_
     refine oS 0 5 27 (fun K hK => ?_)
     refine Kd.R_lit_step k23 _ 23 ?hg (N := 5) ?hd (xs := ([] : List (S23))) (inner := []) (ok := fun _ => True) (okp := fun _ => True) ?hr ?hp (fun _ hk => hk) trivial (Below.refl _ _) (Nat.le_refl _) (by simp) ?_; (case hd => rfl); (case hg => rfl); (case hr => first | (go_simp; done) | (go_simp; rfl)); (case hp => exact (Reps.none _ _))
     intro v418 w10 ho11 hb hg_ hnew_
     clear hg_ hnew_
     (first | rw [← Ny417.out] at ho11 | (simp only [Int.reduceToNat] at ho11; rw [← Ny417.out] at ho11))
     have n0_ := Aside0.mk (Kd.R_elder' (by (with_reducible repeat (first | apply Kd.R_alloc | apply Kd.R_drewN | apply Kd.R_drew)); exact HO425.out) (Kd.R_base ho11) hb)
     have n1_ := Aside0.mk (Kd.R_lower (Kd.R_newB (Kd.R_new' ho11 (Kd.R_lt (by (with_reducible repeat (first | apply Kd.R_alloc | apply Kd.R_drewN | apply Kd.R_drew)); exact HO425.out))) (g := gb416) (o := .cells #[.int .i64 a1_0, .int .i64 a1_1, .int .i64 a1_2, .int .i64 a1_3] 23 (0, 0)) (kbx BK416)) (below_size (hbx HB)))
     have n2_ := kb BK416 hb
     have n3_ := bt HB hb
     clear HO425
     clear BK416
     clear HB
     have HO425 := n0_
     have HO419 := n1_
     have BK416 := n2_
     have HB := n3_
     clear n0_ n1_ n2_ n3_
     clear hb ho11
     refine ko hK (fun hHeld => ?_)
     clear hK K
     refine nm 5 ?_
     refine oS 2 7 31 (fun K hK => ?_)
     refine Kd.R_append_rows_step k23 (w0 := w) w.heap.size (by rfl) (.tmp 5) (.tmp 6) 53 23 (.agg #[(.int .i64 0), (.int .i64 0), (.int .i64 0), (.int .i64 0)]) 32 rfl Try.underlying53 info23 rfl (by decide) (by omega) v418 y417 l0 _ _ _ (fun k_ => some k_ ≠ (v424 : Value).ownBlock ∧ k_ ≠ gb416) (fun _ => False) rfl rfl ?aO ?aR (fun _ _ h => h) (fun _ h => h.elim) ?aF ?aB ?aS ?aL ?_
     (case aR => repeat (first | exact (Kd.C_below HR0.out HB.out) | (with_reducible refine Kd.C_alloc ?_ _) | (with_reducible refine Kd.C_drewN ?_ _) | (with_reducible refine Kd.C_drew ?_)))
     (case aB => exact (hbx HB))
     (case aF => exact (fun k_ hk => ⟨Kd.fresh' (Kd.R_lt (by (with_reducible repeat (first | apply Kd.R_alloc | apply Kd.R_drewN | apply Kd.R_drew)); exact HO425.out)) k_ hk, Kd.freshB (g := gb416) (o := .cells #[.int .i64 a1_0, .int .i64 a1_1, .int .i64 a1_2, .int .i64 a1_3] 23 (0, 0)) (kbx BK416) k_ hk⟩))
     (case aO => exact (by (with_reducible repeat (first | apply Kd.R_alloc | apply Kd.R_drewN | apply Kd.R_drew)); exact Kd.R_mono HO419.out (fun _ hk => ⟨hk.1.2, hk.2⟩)))
     (case aS => exact (below_size (hbx HB)))
     (case aL => have := LMc3.out; omega)
     intro v421 w12 ho hb hg hat
     rw [← Ny420.out] at ho
     have n0_ := Aside0.mk (blk_grown (g := gb416) (o := .cells #[.int .i64 a1_0, .int .i64 a1_1, .int .i64 a1_2, .int .i64 a1_3] 23 (0, 0)) (kbx BK416) hg (Kd.R_away HO419.out (fun _ hk => hk.2)))
     have n1_ := Aside0.mk (Kd.R_after (ok := (fun k_ => k_ ≠ gb416)) (by (with_reducible repeat (first | apply Kd.R_alloc | apply Kd.R_drewN | apply Kd.R_drew)); exact Kd.R_mono HO425.out (fun _ hk => ⟨hk.1.2, hk.2⟩)) hg hat)
     have n2_ := Aside0.mk (hb)
     have n3_ := Aside0.mk (ho)
     clear BK416
     clear HO425
     clear HB
     clear HO419
     have BK416 := n0_
     have HO425 := n1_
     have HB := n2_
     have HO422 := n3_
     clear n0_ n1_ n2_ n3_
     clear ho hb hg hat
     refine ko hK (fun hHeld => ?_)
     clear hK K
     refine nm 7 ?_
     exact norm_ (by simp only [putAll, Act.put, List.setIfInBounds_toArray, List.set_cons_zero, List.set_cons_succ]) (hCont (v418, v421, v424) _ ⟨hHeld, (by (with_reducible repeat (first | apply Kd.R_alloc | apply Kd.R_drewN | apply Kd.R_drew)); exact HO422.out), (by (with_reducible repeat (first | apply Kd.R_alloc | apply Kd.R_drewN | apply Kd.R_drew)); exact Kd.R_mono HO425.out (fun _ hk => ⟨hk.2, hk.1⟩)), (kbx BK416), (hbx HB)⟩)
   rintro ⟨v418, v421, v424⟩ w13 ⟨hS_, h0_, h1_, h2_, h3_⟩
   have n0_ : Aside0 (Kd.R k23 23 w13 w.heap.size (fun k_ => some k_ ≠ (v424 : Value).ownBlock ∧ k_ ≠ gb416) v421 y420) := ⟨h0_⟩
   have n1_ : Aside0 (Kd.R k23 23 w13 w.heap.size (fun k_ => some k_ ≠ (v421 : Value).ownBlock ∧ k_ ≠ gb416) v424 y423) := ⟨h1_⟩
   have n2_ : Aside0 (w13.heap[gb416]? = some (.cells #[.int .i64 a1_0, .int .i64 a1_1, .int .i64 a1_2, .int .i64 a1_3] 23 (0, 0))) := ⟨h2_⟩
   have n3_ : Aside0 (Below w.heap.size w w13) := ⟨h3_⟩
   clear BK416
   clear HB
   clear h0_ h1_ h2_ h3_
   have HO422 := n0_
   have HO425 := n1_
   have BK416 := n2_
   have HB := n3_
   clear n0_ n1_ n2_ n3_
   have hHeld : w13.cell? ⟨gb416, 0, none⟩ = some (.int .i64 a1_0) ∧ w13.cell? ⟨gb416, 1, none⟩ = some (.int .i64 a1_1) ∧ w13.cell? ⟨gb416, 2, none⟩ = some (.int .i64 a1_2) ∧ w13.cell? ⟨gb416, 3, none⟩ = some (.int .i64 a1_3) := hS_
   obtain ⟨Ao15, co15, eo15⟩ := Kd.R_slice HO425.out
   (first | subst eo15 | (injection eo15 with f1_ f2_ f3_; have f4_ := f1_.symm; have f5_ := f3_.symm; clear f1_ f2_ f3_; subst f4_; subst f5_))
   refine norm_ (a' := ?_) ?_ ?_
   rotate_left
   ·simp only [putAll, Act.put, List.setIfInBounds_toArray, List.set_cons_zero, List.set_cons_succ]
    rfl
   refine oS 5 10 63 (fun K hK => ?_)
   refine Kd.R_append_rows_step k23 (w0 := w) w.heap.size (by rfl) (.tmp 7) (.tmp 9) 53 23 (.agg #[(.int .i64 0), (.int .i64 0), (.int .i64 0), (.int .i64 0)]) 32 rfl Try.underlying53 info23 rfl (by decide) (by omega) v421 y420 y423 _ _ _ (fun k_ => some k_ ≠ (.slice Ao15 y423.length co15 : Value).ownBlock ∧ k_ ≠ gb416) (fun _ => False) rfl rfl ?aO ?aR (fun _ _ h => h) (fun _ h => h.elim) ?aF ?aB ?aS ?aL ?_
   (case aR => repeat (first | exact (Kd.R_reads' HO425.out).2.2 | (with_reducible refine Kd.C_alloc ?_ _) | (with_reducible refine Kd.C_drewN ?_ _) | (with_reducible refine Kd.C_drew ?_)))
   (case aB => exact (hbx HB))
   (case aF => exact (fun k_ hk => ⟨Kd.fresh' (Kd.R_lt (by (with_reducible repeat (first | apply Kd.R_alloc | apply Kd.R_drewN | apply Kd.R_drew)); exact HO425.out)) k_ hk, Kd.freshB (g := gb416) (o := .cells #[.int .i64 a1_0, .int .i64 a1_1, .int .i64 a1_2, .int .i64 a1_3] 23 (0, 0)) (kbx BK416) k_ hk⟩))
   (case aO => exact (by (with_reducible repeat (first | apply Kd.R_alloc | apply Kd.R_drewN | apply Kd.R_drew)); exact HO422.out))
   (case aS => exact (below_size (hbx HB)))
   (case aL => have := LMc4.out; omega)
   intro v427 w14 ho hb hg hat
   rw [← Ny426.out] at ho
   have n0_ := Aside0.mk (blk_grown (g := gb416) (o := .cells #[.int .i64 a1_0, .int .i64 a1_1, .int .i64 a1_2, .int .i64 a1_3] 23 (0, 0)) (kbx BK416) hg (Kd.R_away HO422.out (fun _ hk => hk.2)))
   have n1_ := Aside0.mk (Kd.R_after (ok := (fun k_ => k_ ≠ gb416)) (by (with_reducible repeat (first | apply Kd.R_alloc | apply Kd.R_drewN | apply Kd.R_drew)); exact Kd.R_mono HO425.out (fun _ hk => ⟨hk.2, hk.1⟩)) hg hat)
   have n2_ := Aside0.mk (hb)
   have n3_ := Aside0.mk (ho)
   clear BK416
   clear HO425
   clear HB
   clear HO422
   have BK416 := n0_
   have HO425 := n1_
   have HB := n2_
   have HO428 := n3_
   clear n0_ n1_ n2_ n3_
   clear ho hb hg hat
   obtain ⟨Ao16, co16, eo16⟩ := Kd.R_slice HO428.out
   (first | subst eo16 | (injection eo16 with f1_ f2_ f3_; have f4_ := f1_.symm; have f5_ := f3_.symm; clear f1_ f2_ f3_; subst f4_; subst f5_))
   refine ko hK (fun hHeld => ?_)
   clear hK K
   refine nm 10 ?_
   refine oS 6 11 127 (fun K hK => ?_)
   refine gO Try.func39 #[.slice Ao16 y426.length co16] ?_
   with_reducible refine (spec_Open.calls k _ _ y426 t429 _ ?side1 ?side2 A5.out).mono ?_
   (case side1 => repeat (first | exact (Kd.R_reads' HO428.out).2.2 | (with_reducible refine Kd.C_alloc ?_ _) | (with_reducible refine Kd.C_drewN ?_ _) | (with_reducible refine Kd.C_drew ?_)))
   (case side2 => exact (Kd.R_reads' HO428.out).2.1)
   rintro e w17 ⟨rfl, hb⟩
   refine ⟨_, rfl, ?_⟩
   have n0_ := Aside0.mk (Kd.R_below (by (with_reducible repeat (first | apply Kd.R_alloc | apply Kd.R_drewN | apply Kd.R_drew)); exact HO425.out) hb)
   have n1_ := Aside0.mk (Kd.R_below (by (with_reducible repeat (first | apply Kd.R_alloc | apply Kd.R_drewN | apply Kd.R_drew)); exact HO428.out) hb)
   have n2_ := kb BK416 hb
   have n3_ := bt HB hb
   clear HO425
   clear HO428
   clear BK416
   clear HB
   have HO425 := n0_
   have HO428 := n1_
   have BK416 := n2_
   have HB := n3_
   clear n0_ n1_ n2_ n3_
   (try clear hb)
   (try clear hb2)
   (try clear hk)
   (try clear hi)
   refine ko hK (fun hHeld => ?_)
   clear hK K
   refine nm 11 ?_
   refine pS 7 4 255 ?_
   refine done_ (done_of HT_.out (by kernel_rfl)) ?_
   try go_wp2
   go_ret
   exact fin HB
  ·rw [if_neg c4] at H
   exact absurd H (by simp)
 ·rw [if_neg c3] at H
  exact absurd H (by simp)

/-! ### impl_with: function 97 -/
def impl_with.f (l0 : List (S23)) (a1_0 : Int) (a1_1 : Int) (a1_2 : Int) (a1_3 : Int) : Option ((List (S23))) := (some (([] : List (S23)) : List (S23))).bind fun y431 => (if y431.length + l0.length < 4398046511104 then ((some (y431 ++ l0 : List (S23))).bind fun y434 => ((some (([(⟨a1_0, a1_1, a1_2, a1_3⟩ : S23)] : List (S23)) : List (S23))).bind fun y437 => (if y434.length + y437.length < 4398046511104 then (some (y434 ++ y437)) else (none)))) else (none))
set_option maxHeartbeats 8000000 in
set_option maxRecDepth 100000 in
theorem impl_with.calls (A0 : Option Addr) (c0 : Nat) (l0 : List (S23)) (a1_0 : Int) (a1_1 : Int) (a1_2 : Int) (a1_3 : Int) (r : List (S23)) (w : World) (hr0 : Kd.C k23 w A0 l0.length l0) (hc0 : l0.length ≤ c0) (h : impl_with.f l0 a1_0 a1_1 a1_2 a1_3 = some r) :
  Calls Try.prog 97 #[.slice A0 l0.length c0, .agg #[.int .i64 a1_0, .int .i64 a1_1, .int .i64 a1_2, .int .i64 a1_3]] w fun e w' => ∃ v0_ : Value, e = .returned (v0_) ∧ Kd.R k23 23 w' w.heap.size (fun _ => True) v0_ r ∧ Below w.heap.size w w' := by
 have hu23 := Try.underlying23
 have HR0 := Aside0.mk hr0
 have HC0 := Aside0.mk hc0
 clear hr0 hc0
 have HB := Aside0.mk (Below.refl w.heap.size w)
 have H : ((some (([] : List (S23)) : List (S23))).bind fun y431 => (if y431.length + l0.length < 4398046511104 then ((some (y431 ++ l0 : List (S23))).bind fun y434 => ((some (([(⟨a1_0, a1_1, a1_2, a1_3⟩ : S23)] : List (S23)) : List (S23))).bind fun y437 => (if y434.length + y437.length < 4398046511104 then (some (y434 ++ y437)) else (none)))) else (none))) = some r := h
 clear h
 obtain ⟨y431, hy431⟩ : ∃ y_ : List (S23), y_ = (([] : List (S23))) := ⟨_, rfl⟩
 replace H : (if y431.length + l0.length < 4398046511104 then ((some (y431 ++ l0 : List (S23))).bind fun y434 => ((some (([(⟨a1_0, a1_1, a1_2, a1_3⟩ : S23)] : List (S23)) : List (S23))).bind fun y437 => (if y434.length + y437.length < 4398046511104 then (some (y434 ++ y437)) else (none)))) else (none)) = some r := by first | (rw [hy431]; with_reducible exact H) | (have H2_ := (Option.bind_some _ _).symm.trans H; rw [hy431]; with_reducible exact H2_) | (have H2_ := (Option.bind_some _ _).symm.trans H; with_reducible exact H2_) | with_reducible exact H | (rw [hy431]; exact H) | exact H
 have Ny431 := Aside0.mk hy431
 clear hy431
 by_cases c3 : y431.length + l0.length < 4398046511104
 ·rw [if_pos c3] at H
  have LMc3 := Aside0.mk c3
  clear c3
  obtain ⟨y434, hy434⟩ : ∃ y_ : List (S23), y_ = (y431 ++ l0) := ⟨_, rfl⟩
  replace H : ((some (([(⟨a1_0, a1_1, a1_2, a1_3⟩ : S23)] : List (S23)) : List (S23))).bind fun y437 => (if y434.length + y437.length < 4398046511104 then (some (y434 ++ y437)) else (none))) = some r := by first | (rw [hy434]; with_reducible exact H) | (have H2_ := (Option.bind_some _ _).symm.trans H; rw [hy434]; with_reducible exact H2_) | (have H2_ := (Option.bind_some _ _).symm.trans H; with_reducible exact H2_) | with_reducible exact H | (rw [hy434]; exact H) | exact H
  have Ny434 := Aside0.mk hy434
  clear hy434
  obtain ⟨y437, hy437⟩ : ∃ y_ : List (S23), y_ = (([(⟨a1_0, a1_1, a1_2, a1_3⟩ : S23)] : List (S23))) := ⟨_, rfl⟩
  replace H : (if y434.length + y437.length < 4398046511104 then (some (y434 ++ y437)) else (none)) = some r := by first | (rw [hy437]; with_reducible exact H) | (have H2_ := (Option.bind_some _ _).symm.trans H; rw [hy437]; with_reducible exact H2_) | (have H2_ := (Option.bind_some _ _).symm.trans H; with_reducible exact H2_) | with_reducible exact H | (rw [hy437]; exact H) | exact H
  have Ny437 := Aside0.mk hy437
  clear hy437
  by_cases c4 : y434.length + y437.length < 4398046511104
  ·rw [if_pos c4] at H
   have LMc4 := Aside0.mk c4
   clear c4
   obtain ⟨y440, hy440⟩ : ∃ y_ : List (S23), y_ = (y434 ++ y437) := ⟨_, rfl⟩
   replace H : (some y440) = some r := by first | (rw [hy440]; with_reducible exact H) | (have H2_ := (Option.bind_some _ _).symm.trans H; rw [hy440]; with_reducible exact H2_) | (have H2_ := (Option.bind_some _ _).symm.trans H; with_reducible exact H2_) | with_reducible exact H | (rw [hy440]; exact H) | exact H
   have Ny440 := Aside0.mk hy440
   clear hy440
   obtain rfl := Option.some.inj H
   go_enter Try.func97, Try.ntmps97
   try go_wp2_with (first | ((with_reducible refine gate_dst (N := 3) rfl ?_); refine box_event ?hg (N := 3) ?hd (cs := #[.int .i64 a1_0, .int .i64 a1_1, .int .i64 a1_2, .int .i64 a1_3]) (t := 23) ?hr ?_; (case hd => rfl); (case hg => rfl); (case hr => first | (go_simp; done) | (go_simp; rfl)); intro gb430 hg w5 hbox hb; have n0_ := bt HB hb; have n1_ := Aside0.mk (hbox); have n2_ := gx hg HB; have n3_ := gx hg HB; clear HB; have HB := n0_; have BK430 := n1_; have GW430 := n2_; have GE430 := n3_; clear n0_ n1_ n2_ n3_; clear hb hbox hg))
   have n0_ := Aside0.mk (blk_drew BK430.out)
   have n1_ := Aside0.mk (below_drew1 HB.out)
   clear BK430
   clear HB
   have BK430 := n0_
   have HB := n1_
   clear n0_ n1_
   refine start_ (n := 7) (S := fun w' => w'.cell? ⟨gb430, 0, none⟩ = some (.int .i64 a1_0) ∧ w'.cell? ⟨gb430, 1, none⟩ = some (.int .i64 a1_1) ∧ w'.cell? ⟨gb430, 2, none⟩ = some (.int .i64 a1_2) ∧ w'.cell? ⟨gb430, 3, none⟩ = some (.int .i64 a1_3)) (ds := []) (bl 7 0) (by kernel_rfl) rfl rfl ⟨(blk_cell BK430.out 0).trans rfl, (blk_cell BK430.out 1).trans rfl, (blk_cell BK430.out 2).trans rfl, (blk_cell BK430.out 3).trans rfl⟩ (fun hHeld => ?_)
   generalize w5.drew = w6 at BK430 HB hHeld ⊢
   refine pure_ (i := 1) (N := some 6) (v := ?_) (a' := ?_) (bl 7 2) rfl rfl (by kernel_rfl) (fun _ _ _ h => h) (Or.inl ⟨by rfl, ?_⟩) ?_ ?_
   rotate_left
   ·intro w'
    go_simp
    with_reducible rfl
   rotate_left
   ·simp only [Act.put, List.setIfInBounds_toArray, List.set_cons_zero, List.set_cons_succ, i64_w, i32_w]
    rfl
   refine take_ (i := 3) (N := some 8) (v := ?_) (a' := ?_) (bl 7 10) rfl rfl (by kernel_rfl) (fun _ _ _ h => h) (Or.inl ⟨by rfl, ?_⟩) hHeld ?_ ?_
   rotate_left
   ·rintro w' ⟨s0, s1, s2, s3⟩
    go_simp
    with_reducible rfl
   rotate_left
   ·simp only [Act.put, List.setIfInBounds_toArray, List.set_cons_zero, List.set_cons_succ, i64_w, i32_w]
    rfl
   refine join_ (σ := Value × Value × Value) 2 (bl 7 31) (fun s_ => [(5, s_.1), (7, s_.2.1), (9, s_.2.2)]) (fun s_ w' => (w'.cell? ⟨gb430, 0, none⟩ = some (.int .i64 a1_0) ∧ w'.cell? ⟨gb430, 1, none⟩ = some (.int .i64 a1_1) ∧ w'.cell? ⟨gb430, 2, none⟩ = some (.int .i64 a1_2) ∧ w'.cell? ⟨gb430, 3, none⟩ = some (.int .i64 a1_3)) ∧ (Kd.R k23 23 w' w.heap.size (fun k_ => some k_ ≠ (s_.2.2 : Value).ownBlock ∧ k_ ≠ gb430) s_.2.1 y434) ∧ (Kd.R k23 23 w' w.heap.size (fun k_ => some k_ ≠ (s_.2.1 : Value).ownBlock ∧ k_ ≠ gb430) s_.2.2 y437) ∧ (w'.heap[gb430]? = some (.cells #[.int .i64 a1_0, .int .i64 a1_1, .int .i64 a1_2, .int .i64 a1_3] 23 (0, 0))) ∧ (Below w.heap.size w w')) ?_ ?_
   rotate_left
   ·intro hCont
    refine two_ (i := 0) (j := 4) (Ni := some 5) (Nj := some 9) (bl 7 11) (bl 7 26) rfl rfl rfl rfl (by kernel_rfl) (by decide) (by decide) (fun K hK => ?_) (fun K hK => ?_)
    ·skip
     refine Kd.R_lit_step k23 _ 23 ?hg (N := 5) ?hd (xs := ([] : List (S23))) (inner := []) (ok := fun _ => True) (okp := fun _ => True) ?hr ?hp (fun _ hk => hk) trivial (Below.refl _ _) (Nat.le_refl _) (by simp) ?_; (case hd => rfl); (case hg => rfl); (case hr => first | (go_simp; done) | (go_simp; rfl)); (case hp => exact (Reps.none _ _))
     intro v432 w7 ho8 hb hg_ hnew_
     clear hg_ hnew_
     (first | rw [← Ny431.out] at ho8 | (simp only [Int.reduceToNat] at ho8; rw [← Ny431.out] at ho8))
     have n0_ := Aside0.mk (Kd.R_lower (Kd.R_newB ho8 (g := gb430) (o := .cells #[.int .i64 a1_0, .int .i64 a1_1, .int .i64 a1_2, .int .i64 a1_3] 23 (0, 0)) (kbx BK430)) (below_size (hbx HB)))
     have n1_ := kb BK430 hb
     have n2_ := bt HB hb
     clear BK430
     clear HB
     have HO433 := n0_
     have BK430 := n1_
     have HB := n2_
     clear n0_ n1_ n2_
     clear hb ho8
     refine ko hK (fun hHeld => ?_)
     clear hK K
     refine nm 5 ?_
     refine two_ (i := 2) (j := 4) (Ni := some 7) (Nj := some 9) (bl 7 15) (bl 7 27) rfl rfl rfl rfl (by kernel_rfl) (by decide) (by decide) (fun K hK => ?_) (fun K hK => ?_)
     ·skip
      refine Kd.R_append_rows_step k23 (w0 := w) w.heap.size (by rfl) (.tmp 5) (.tmp 6) 53 23 (.agg #[(.int .i64 0), (.int .i64 0), (.int .i64 0), (.int .i64 0)]) 32 rfl Try.underlying53 info23 rfl (by decide) (by omega) v432 y431 l0 _ _ _ (fun k_ => k_ ≠ gb430) (fun _ => False) rfl rfl ?aO ?aR (fun _ _ h => h) (fun _ h => h.elim) ?aF ?aB ?aS ?aL ?_
      (case aR => repeat (first | exact (Kd.C_below HR0.out HB.out) | (with_reducible refine Kd.C_alloc ?_ _) | (with_reducible refine Kd.C_drewN ?_ _) | (with_reducible refine Kd.C_drew ?_)))
      (case aB => exact (hbx HB))
      (case aF => exact (fun k_ hk => Kd.freshB (g := gb430) (o := .cells #[.int .i64 a1_0, .int .i64 a1_1, .int .i64 a1_2, .int .i64 a1_3] 23 (0, 0)) (kbx BK430) k_ hk))
      (case aO => exact (by (with_reducible repeat (first | apply Kd.R_alloc | apply Kd.R_drewN | apply Kd.R_drew)); exact Kd.R_mono HO433.out (fun _ hk => hk.2)))
      (case aS => exact (below_size (hbx HB)))
      (case aL => have := LMc3.out; omega)
      intro v435 w9 ho hb hg hat
      rw [← Ny434.out] at ho
      have n0_ := Aside0.mk (blk_grown (g := gb430) (o := .cells #[.int .i64 a1_0, .int .i64 a1_1, .int .i64 a1_2, .int .i64 a1_3] 23 (0, 0)) (kbx BK430) hg (Kd.R_away HO433.out (fun _ hk => hk.2)))
      have n1_ := Aside0.mk (hb)
      have n2_ := Aside0.mk (ho)
      clear BK430
      clear HB
      clear HO433
      have BK430 := n0_
      have HB := n1_
      have HO436 := n2_
      clear n0_ n1_ n2_
      clear ho hb hg hat
      refine ko hK (fun hHeld => ?_)
      clear hK K
      refine nm 7 ?_
      refine one_ (i := 4) (N := some 9) (bl 7 31) rfl rfl (by kernel_rfl) (by decide) (fun K hK => ?_)
      refine Kd.R_lit_step k23 _ 23 ?hg (N := 9) ?hd (xs := ([(⟨a1_0, a1_1, a1_2, a1_3⟩ : S23)] : List (S23))) (inner := [.int .i64 a1_0, .int .i64 a1_1, .int .i64 a1_2, .int .i64 a1_3]) (ok := fun _ => True) (okp := fun _ => True) ?hr ?hp (fun _ hk => hk) trivial (Below.refl _ _) (Nat.le_refl _) (by simp) ?_; (case hd => rfl); (case hg => rfl); (case hr => first | (go_simp; done) | (go_simp; rfl)); (case hp => exact (Reps.c4 (show Kd.M k23 _ _ _ (⟨a1_0, a1_1, a1_2, a1_3⟩ : S23) [.int .i64 a1_0, .int .i64 a1_1, .int .i64 a1_2, .int .i64 a1_3] from (k23_mkM _ _ _ (⟨a1_0, a1_1, a1_2, a1_3⟩ : S23) )) (Reps.none _ _)))
      intro v438 w10 ho11 hb hg_ hnew_
      clear hg_ hnew_
      (first | rw [← Ny437.out] at ho11 | (simp only [Int.reduceToNat] at ho11; rw [← Ny437.out] at ho11))
      have n0_ := Aside0.mk (Kd.R_elder' (by (with_reducible repeat (first | apply Kd.R_alloc | apply Kd.R_drewN | apply Kd.R_drew)); exact HO436.out) (Kd.R_base ho11) hb)
      have n1_ := Aside0.mk (Kd.R_lower (Kd.R_newB (Kd.R_new' ho11 (Kd.R_lt (by (with_reducible repeat (first | apply Kd.R_alloc | apply Kd.R_drewN | apply Kd.R_drew)); exact HO436.out))) (g := gb430) (o := .cells #[.int .i64 a1_0, .int .i64 a1_1, .int .i64 a1_2, .int .i64 a1_3] 23 (0, 0)) (kbx BK430)) (below_size (hbx HB)))
      have n2_ := kb BK430 hb
      have n3_ := bt HB hb
      clear HO436
      clear BK430
      clear HB
      have HO436 := n0_
      have HO439 := n1_
      have BK430 := n2_
      have HB := n3_
      clear n0_ n1_ n2_ n3_
      clear hb ho11
      refine ko hK (fun hHeld => ?_)
      clear hK K
      refine nm 9 ?_
      exact norm_ (by simp only [putAll, Act.put, List.setIfInBounds_toArray, List.set_cons_zero, List.set_cons_succ]) (hCont (v432, v435, v438) _ ⟨hHeld, (by (with_reducible repeat (first | apply Kd.R_alloc | apply Kd.R_drewN | apply Kd.R_drew)); exact Kd.R_mono HO436.out (fun _ hk => ⟨hk.2, hk.1⟩)), (by (with_reducible repeat (first | apply Kd.R_alloc | apply Kd.R_drewN | apply Kd.R_drew)); exact Kd.R_mono HO439.out (fun _ hk => ⟨hk.1.2, hk.2⟩)), (kbx BK430), (hbx HB)⟩)
     ·skip
      refine Kd.R_lit_step k23 _ 23 ?hg (N := 9) ?hd (xs := ([(⟨a1_0, a1_1, a1_2, a1_3⟩ : S23)] : List (S23))) (inner := [.int .i64 a1_0, .int .i64 a1_1, .int .i64 a1_2, .int .i64 a1_3]) (ok := fun _ => True) (okp := fun _ => True) ?hr ?hp (fun _ hk => hk) trivial (Below.refl _ _) (Nat.le_refl _) (by simp) ?_; (case hd => rfl); (case hg => rfl); (case hr => first | (go_simp; done) | (go_simp; rfl)); (case hp => exact (Reps.c4 (show Kd.M k23 _ _ _ (⟨a1_0, a1_1, a1_2, a1_3⟩ : S23) [.int .i64 a1_0, .int .i64 a1_1, .int .i64 a1_2, .int .i64 a1_3] from (k23_mkM _ _ _ (⟨a1_0, a1_1, a1_2, a1_3⟩ : S23) )) (Reps.none _ _)))
      intro v438 w9 ho10 hb hg_ hnew_
      clear hg_ hnew_
      (first | rw [← Ny437.out] at ho10 | (simp only [Int.reduceToNat] at ho10; rw [← Ny437.out] at ho10))
      have n0_ := Aside0.mk (Kd.R_elder' (by (with_reducible repeat (first | apply Kd.R_alloc | apply Kd.R_drewN | apply Kd.R_drew)); exact HO433.out) (Kd.R_base ho10) hb)
      have n1_ := Aside0.mk (Kd.R_lower (Kd.R_newB (Kd.R_new' ho10 (Kd.R_lt (by (with_reducible repeat (first | apply Kd.R_alloc | apply Kd.R_drewN | apply Kd.R_drew)); exact HO433.out))) (g := gb430) (o := .cells #[.int .i64 a1_0, .int .i64 a1_1, .int .i64 a1_2, .int .i64 a1_3] 23 (0, 0)) (kbx BK430)) (below_size (hbx HB)))
      have n2_ := kb BK430 hb
      have n3_ := bt HB hb
      clear HO433
      clear BK430
      clear HB
      have HO433 := n0_
      have HO439 := n1_
      have BK430 := n2_
      have HB := n3_
      clear n0_ n1_ n2_ n3_
      clear hb ho10
      refine ko hK (fun hHeld => ?_)
      clear hK K
      refine nm 9 ?_
      refine one_ (i := 2) (N := some 7) (bl 7 31) rfl rfl (by kernel_rfl) (by decide) (fun K hK => ?_)
      refine Kd.R_append_rows_step k23 (w0 := w) w.heap.size (by rfl) (.tmp 5) (.tmp 6) 53 23 (.agg #[(.int .i64 0), (.int .i64 0), (.int .i64 0), (.int .i64 0)]) 32 rfl Try.underlying53 info23 rfl (by decide) (by omega) v432 y431 l0 _ _ _ (fun k_ => some k_ ≠ (v438 : Value).ownBlock ∧ k_ ≠ gb430) (fun _ => False) rfl rfl ?aO ?aR (fun _ _ h => h) (fun _ h => h.elim) ?aF ?aB ?aS ?aL ?_
      (case aR => repeat (first | exact (Kd.C_below HR0.out HB.out) | (with_reducible refine Kd.C_alloc ?_ _) | (with_reducible refine Kd.C_drewN ?_ _) | (with_reducible refine Kd.C_drew ?_)))
      (case aB => exact (hbx HB))
      (case aF => exact (fun k_ hk => ⟨Kd.fresh' (Kd.R_lt (by (with_reducible repeat (first | apply Kd.R_alloc | apply Kd.R_drewN | apply Kd.R_drew)); exact HO439.out)) k_ hk, Kd.freshB (g := gb430) (o := .cells #[.int .i64 a1_0, .int .i64 a1_1, .int .i64 a1_2, .int .i64 a1_3] 23 (0, 0)) (kbx BK430) k_ hk⟩))
      (case aO => exact (by (with_reducible repeat (first | apply Kd.R_alloc | apply Kd.R_drewN | apply Kd.R_drew)); exact Kd.R_mono HO433.out (fun _ hk => ⟨hk.2, hk.1.2⟩)))
      (case aS => exact (below_size (hbx HB)))
      (case aL => have := LMc3.out; omega)
      intro v435 w11 ho hb hg hat
      rw [← Ny434.out] at ho
      have n0_ := Aside0.mk (blk_grown (g := gb430) (o := .cells #[.int .i64 a1_0, .int .i64 a1_1, .int .i64 a1_2, .int .i64 a1_3] 23 (0, 0)) (kbx BK430) hg (Kd.R_away HO433.out (fun _ hk => hk.1.2)))
      have n1_ := Aside0.mk (Kd.R_after (ok := (fun k_ => k_ ≠ gb430)) (by (with_reducible repeat (first | apply Kd.R_alloc | apply Kd.R_drewN | apply Kd.R_drew)); exact Kd.R_mono HO439.out (fun _ hk => ⟨hk.2, hk.1.2⟩)) hg hat)
      have n2_ := Aside0.mk (hb)
      have n3_ := Aside0.mk (ho)
      clear BK430
      clear HO439
      clear HB
      clear HO433
      have BK430 := n0_
      have HO439 := n1_
      have HB := n2_
      have HO436 := n3_
      clear n0_ n1_ n2_ n3_
      clear ho hb hg hat
      refine ko hK (fun hHeld => ?_)
      clear hK K
      refine nm 7 ?_
      exact norm_ (by simp only [putAll, Act.put, List.setIfInBounds_toArray, List.set_cons_zero, List.set_cons_succ]) (hCont (v432, v435, v438) _ ⟨hHeld, (by (with_reducible repeat (first | apply Kd.R_alloc | apply Kd.R_drewN | apply Kd.R_drew)); exact HO436.out), (by (with_reducible repeat (first | apply Kd.R_alloc | apply Kd.R_drewN | apply Kd.R_drew)); exact Kd.R_mono HO439.out (fun _ hk => ⟨hk.2, hk.1⟩)), (kbx BK430), (hbx HB)⟩)
    ·skip
     refine Kd.R_lit_step k23 _ 23 ?hg (N := 9) ?hd (xs := ([(⟨a1_0, a1_1, a1_2, a1_3⟩ : S23)] : List (S23))) (inner := [.int .i64 a1_0, .int .i64 a1_1, .int .i64 a1_2, .int .i64 a1_3]) (ok := fun _ => True) (okp := fun _ => True) ?hr ?hp (fun _ hk => hk) trivial (Below.refl _ _) (Nat.le_refl _) (by simp) ?_; (case hd => rfl); (case hg => rfl); (case hr => first | (go_simp; done) | (go_simp; rfl)); (case hp => exact (Reps.c4 (show Kd.M k23 _ _ _ (⟨a1_0, a1_1, a1_2, a1_3⟩ : S23) [.int .i64 a1_0, .int .i64 a1_1, .int .i64 a1_2, .int .i64 a1_3] from (k23_mkM _ _ _ (⟨a1_0, a1_1, a1_2, a1_3⟩ : S23) )) (Reps.none _ _)))
     intro v438 w7 ho8 hb hg_ hnew_
     clear hg_ hnew_
     (first | rw [← Ny437.out] at ho8 | (simp only [Int.reduceToNat] at ho8; rw [← Ny437.out] at ho8))
     have n0_ := Aside0.mk (Kd.R_lower (Kd.R_newB ho8 (g := gb430) (o := .cells #[.int .i64 a1_0, .int .i64 a1_1, .int .i64 a1_2, .int .i64 a1_3] 23 (0, 0)) (kbx BK430)) (below_size (hbx HB)))
     have n1_ := kb BK430 hb
     have n2_ := bt HB hb
     clear BK430
     clear HB
     have HO439 := n0_
     have BK430 := n1_
     have HB := n2_
     clear n0_ n1_ n2_
     clear hb ho8
     refine ko hK (fun hHeld => ?_)
     clear hK K
     refine nm 9 ?_
     refine one_ (i := 0) (N := some 5) (bl 7 27) rfl rfl (by kernel_rfl) (by decide) (fun K hK => ?_)
     refine Kd.R_lit_step k23 _ 23 ?hg (N := 5) ?hd (xs := ([] : List (S23))) (inner := []) (ok := fun _ => True) (okp := fun _ => True) ?hr ?hp (fun _ hk => hk) trivial (Below.refl _ _) (Nat.le_refl _) (by simp) ?_; (case hd => rfl); (case hg => rfl); (case hr => first | (go_simp; done) | (go_simp; rfl)); (case hp => exact (Reps.none _ _))
     intro v432 w9 ho10 hb hg_ hnew_
     clear hg_ hnew_
     (first | rw [← Ny431.out] at ho10 | (simp only [Int.reduceToNat] at ho10; rw [← Ny431.out] at ho10))
     have n0_ := Aside0.mk (Kd.R_elder' (by (with_reducible repeat (first | apply Kd.R_alloc | apply Kd.R_drewN | apply Kd.R_drew)); exact HO439.out) (Kd.R_base ho10) hb)
     have n1_ := Aside0.mk (Kd.R_lower (Kd.R_newB (Kd.R_new' ho10 (Kd.R_lt (by (with_reducible repeat (first | apply Kd.R_alloc | apply Kd.R_drewN | apply Kd.R_drew)); exact HO439.out))) (g := gb430) (o := .cells #[.int .i64 a1_0, .int .i64 a1_1, .int .i64 a1_2, .int .i64 a1_3] 23 (0, 0)) (kbx BK430)) (below_size (hbx HB)))
     have n2_ := kb BK430 hb
     have n3_ := bt HB hb
     clear HO439
     clear BK430
     clear HB
     have HO439 := n0_
     have HO433 := n1_
     have BK430 := n2_
     have HB := n3_
     clear n0_ n1_ n2_ n3_
     clear hb ho10
     refine ko hK (fun hHeld => ?_)
     clear hK K
     refine nm 5 ?_
     refine one_ (i := 2) (N := some 7) (bl 7 31) rfl rfl (by kernel_rfl) (by decide) (fun K hK => ?_)
     refine Kd.R_append_rows_step k23 (w0 := w) w.heap.size (by rfl) (.tmp 5) (.tmp 6) 53 23 (.agg #[(.int .i64 0), (.int .i64 0), (.int .i64 0), (.int .i64 0)]) 32 rfl Try.underlying53 info23 rfl (by decide) (by omega) v432 y431 l0 _ _ _ (fun k_ => some k_ ≠ (v438 : Value).ownBlock ∧ k_ ≠ gb430) (fun _ => False) rfl rfl ?aO ?aR (fun _ _ h => h) (fun _ h => h.elim) ?aF ?aB ?aS ?aL ?_
     (case aR => repeat (first | exact (Kd.C_below HR0.out HB.out) | (with_reducible refine Kd.C_alloc ?_ _) | (with_reducible refine Kd.C_drewN ?_ _) | (with_reducible refine Kd.C_drew ?_)))
     (case aB => exact (hbx HB))
     (case aF => exact (fun k_ hk => ⟨Kd.fresh' (Kd.R_lt (by (with_reducible repeat (first | apply Kd.R_alloc | apply Kd.R_drewN | apply Kd.R_drew)); exact HO439.out)) k_ hk, Kd.freshB (g := gb430) (o := .cells #[.int .i64 a1_0, .int .i64 a1_1, .int .i64 a1_2, .int .i64 a1_3] 23 (0, 0)) (kbx BK430) k_ hk⟩))
     (case aO => exact (by (with_reducible repeat (first | apply Kd.R_alloc | apply Kd.R_drewN | apply Kd.R_drew)); exact Kd.R_mono HO433.out (fun _ hk => ⟨hk.1.2, hk.2⟩)))
     (case aS => exact (below_size (hbx HB)))
     (case aL => have := LMc3.out; omega)
     intro v435 w11 ho hb hg hat
     rw [← Ny434.out] at ho
     have n0_ := Aside0.mk (blk_grown (g := gb430) (o := .cells #[.int .i64 a1_0, .int .i64 a1_1, .int .i64 a1_2, .int .i64 a1_3] 23 (0, 0)) (kbx BK430) hg (Kd.R_away HO433.out (fun _ hk => hk.2)))
     have n1_ := Aside0.mk (Kd.R_after (ok := (fun k_ => k_ ≠ gb430)) (by (with_reducible repeat (first | apply Kd.R_alloc | apply Kd.R_drewN | apply Kd.R_drew)); exact Kd.R_mono HO439.out (fun _ hk => ⟨hk.1.2, hk.2⟩)) hg hat)
     have n2_ := Aside0.mk (hb)
     have n3_ := Aside0.mk (ho)
     clear BK430
     clear HO439
     clear HB
     clear HO433
     have BK430 := n0_
     have HO439 := n1_
     have HB := n2_
     have HO436 := n3_
     clear n0_ n1_ n2_ n3_
     clear ho hb hg hat
     refine ko hK (fun hHeld => ?_)
     clear hK K
     refine nm 7 ?_
     exact norm_ (by simp only [putAll, Act.put, List.setIfInBounds_toArray, List.set_cons_zero, List.set_cons_succ]) (hCont (v432, v435, v438) _ ⟨hHeld, (by (with_reducible repeat (first | apply Kd.R_alloc | apply Kd.R_drewN | apply Kd.R_drew)); exact HO436.out), (by (with_reducible repeat (first | apply Kd.R_alloc | apply Kd.R_drewN | apply Kd.R_drew)); exact Kd.R_mono HO439.out (fun _ hk => ⟨hk.2, hk.1⟩)), (kbx BK430), (hbx HB)⟩)
   rintro ⟨v432, v435, v438⟩ w12 ⟨hS_, h0_, h1_, h2_, h3_⟩
   have n0_ : Aside0 (Kd.R k23 23 w12 w.heap.size (fun k_ => some k_ ≠ (v438 : Value).ownBlock ∧ k_ ≠ gb430) v435 y434) := ⟨h0_⟩
   have n1_ : Aside0 (Kd.R k23 23 w12 w.heap.size (fun k_ => some k_ ≠ (v435 : Value).ownBlock ∧ k_ ≠ gb430) v438 y437) := ⟨h1_⟩
   have n2_ : Aside0 (w12.heap[gb430]? = some (.cells #[.int .i64 a1_0, .int .i64 a1_1, .int .i64 a1_2, .int .i64 a1_3] 23 (0, 0))) := ⟨h2_⟩
   have n3_ : Aside0 (Below w.heap.size w w12) := ⟨h3_⟩
   clear BK430
   clear HB
   clear h0_ h1_ h2_ h3_
   have HO436 := n0_
   have HO439 := n1_
   have BK430 := n2_
   have HB := n3_
   clear n0_ n1_ n2_ n3_
   have hHeld : w12.cell? ⟨gb430, 0, none⟩ = some (.int .i64 a1_0) ∧ w12.cell? ⟨gb430, 1, none⟩ = some (.int .i64 a1_1) ∧ w12.cell? ⟨gb430, 2, none⟩ = some (.int .i64 a1_2) ∧ w12.cell? ⟨gb430, 3, none⟩ = some (.int .i64 a1_3) := hS_
   obtain ⟨Ao14, co14, eo14⟩ := Kd.R_slice HO439.out
   (first | subst eo14 | (injection eo14 with f1_ f2_ f3_; have f4_ := f1_.symm; have f5_ := f3_.symm; clear f1_ f2_ f3_; subst f4_; subst f5_))
   refine norm_ (a' := ?_) ?_ ?_
   rotate_left
   ·simp only [putAll, Act.put, List.setIfInBounds_toArray, List.set_cons_zero, List.set_cons_succ]
    rfl
   refine one_ (i := 5) (N := some 10) (bl 7 63) rfl rfl (by kernel_rfl) (by decide) (fun K hK => ?_)
   refine Kd.R_append_rows_step k23 (w0 := w) w.heap.size (by rfl) (.tmp 7) (.tmp 9) 53 23 (.agg #[(.int .i64 0), (.int .i64 0), (.int .i64 0), (.int .i64 0)]) 32 rfl Try.underlying53 info23 rfl (by decide) (by omega) v435 y434 y437 _ _ _ (fun k_ => some k_ ≠ (.slice Ao14 y437.length co14 : Value).ownBlock ∧ k_ ≠ gb430) (fun _ => False) rfl rfl ?aO ?aR (fun _ _ h => h) (fun _ h => h.elim) ?aF ?aB ?aS ?aL ?_
   (case aR => repeat (first | exact (Kd.R_reads' HO439.out).2.2 | (with_reducible refine Kd.C_alloc ?_ _) | (with_reducible refine Kd.C_drewN ?_ _) | (with_reducible refine Kd.C_drew ?_)))
   (case aB => exact (hbx HB))
   (case aF => exact (fun k_ hk => ⟨Kd.fresh' (Kd.R_lt (by (with_reducible repeat (first | apply Kd.R_alloc | apply Kd.R_drewN | apply Kd.R_drew)); exact HO439.out)) k_ hk, Kd.freshB (g := gb430) (o := .cells #[.int .i64 a1_0, .int .i64 a1_1, .int .i64 a1_2, .int .i64 a1_3] 23 (0, 0)) (kbx BK430) k_ hk⟩))
   (case aO => exact (by (with_reducible repeat (first | apply Kd.R_alloc | apply Kd.R_drewN | apply Kd.R_drew)); exact HO436.out))
   (case aS => exact (below_size (hbx HB)))
   (case aL => have := LMc4.out; omega)
   intro v441 w13 ho hb hg hat
   rw [← Ny440.out] at ho
   have n0_ := Aside0.mk (blk_grown (g := gb430) (o := .cells #[.int .i64 a1_0, .int .i64 a1_1, .int .i64 a1_2, .int .i64 a1_3] 23 (0, 0)) (kbx BK430) hg (Kd.R_away HO436.out (fun _ hk => hk.2)))
   have n1_ := Aside0.mk (Kd.R_after (ok := (fun k_ => k_ ≠ gb430)) (by (with_reducible repeat (first | apply Kd.R_alloc | apply Kd.R_drewN | apply Kd.R_drew)); exact Kd.R_mono HO439.out (fun _ hk => ⟨hk.2, hk.1⟩)) hg hat)
   have n2_ := Aside0.mk (hb)
   have n3_ := Aside0.mk (ho)
   clear BK430
   clear HO439
   clear HB
   clear HO436
   have BK430 := n0_
   have HO439 := n1_
   have HB := n2_
   have HO442 := n3_
   clear n0_ n1_ n2_ n3_
   clear ho hb hg hat
   refine ko hK (fun hHeld => ?_)
   clear hK K
   refine nm 10 ?_
   refine pure_ (i := 6) (N := some 4) (v := ?_) (a' := ?_) (bl 7 127) rfl rfl (by kernel_rfl) (fun _ _ _ h => h) (Or.inl ⟨by rfl, ?_⟩) ?_ ?_
   rotate_left
   ·intro w'
    go_simp
    with_reducible rfl
   rotate_left
   ·simp only [Act.put, List.setIfInBounds_toArray, List.set_cons_zero, List.set_cons_succ, i64_w, i32_w]
    rfl
   refine done_ (by kernel_rfl) ?_
   try go_wp2
   go_ret
   exact ⟨_, by first | rfl | (simp [errW_none, errW_some] <;> rfl) | (simp [*, errW_none, errW_some] <;> rfl), by (with_reducible repeat (first | apply Kd.R_alloc | apply Kd.R_drewN | apply Kd.R_drew)); exact Kd.R_mono HO442.out (fun _ hk => trivial), by repeat (first | (with_reducible first | exact HB.out | apply below_alloc | apply pw_below_drewN | apply below_drew1 | refine below_set ?_ GE430.out) | exact HB.out)⟩
  ·rw [if_neg c4] at H
   exact absurd H (by simp)
 ·rw [if_neg c3] at H
  exact absurd H (by simp)

/-! ### impl_OpenWith: function 44 -/
def impl_OpenWith.f (k : Nat) (l0 : List (S23)) (a1_0 : Int) (a1_1 : Int) (a1_2 : Int) (a1_3 : Int) : Option (Bool) := (impl_with.f l0 a1_0 a1_1 a1_2 a1_3).bind fun t444 => ((impl_Open.f k t444).bind fun t447 => (some t447))
theorem impl_OpenWith.mono : ∀ a0 a1 a2 a3 a4 k, LeO (impl_OpenWith.f k a0 a1 a2 a3 a4) (impl_OpenWith.f (k + 1) a0 a1 a2 a3 a4) := by
 intro a0 a1 a2 a3 a4 k
 unfold impl_OpenWith.f
 repeat' first
   | (with_reducible exact impl_Open.mono _ _)
   | (with_reducible exact LeO.refl _)
   | (with_reducible exact LeO.none _)
   | (with_reducible refine LeO.ite ?_ ?_)
   | (with_reducible refine LeO.bind ?_ (fun _ => ?_))
   | exact impl_Open.mono _ _
   | exact LeO.none _
   | refine LeO.ite ?_ ?_
   | refine LeO.bind ?_ (fun _ => ?_)
set_option maxHeartbeats 8000000 in
set_option maxRecDepth 100000 in
theorem impl_OpenWith.calls (k : Nat) (A0 : Option Addr) (c0 : Nat) (l0 : List (S23)) (a1_0 : Int) (a1_1 : Int) (a1_2 : Int) (a1_3 : Int) (r : Bool) (w : World) (hr0 : Kd.C k23 w A0 l0.length l0) (hc0 : l0.length ≤ c0) (h : impl_OpenWith.f k l0 a1_0 a1_1 a1_2 a1_3 = some r) :
  Calls Try.prog 44 #[.slice A0 l0.length c0, .agg #[.int .i64 a1_0, .int .i64 a1_1, .int .i64 a1_2, .int .i64 a1_3]] w fun e w' => e = .returned (.bool r) ∧ Below w.heap.size w w' := by
 have hu23 := Try.underlying23
 have HR0 := Aside0.mk hr0
 have HC0 := Aside0.mk hc0
 clear hr0 hc0
 have HB := Aside0.mk (Below.refl w.heap.size w)
 have H : ((impl_with.f l0 a1_0 a1_1 a1_2 a1_3).bind fun t444 => ((impl_Open.f k t444).bind fun t447 => (some t447))) = some r := h
 clear h
 obtain ⟨t444, A3, H⟩ := bi H
 obtain ⟨t447, A4, H⟩ := bi H
 obtain rfl := Option.some.inj H
 go_enter Try.func44, Try.ntmps44
 go_wp2_with (first | ((with_reducible refine gate_dst (N := 3) rfl ?_); refine box_event ?hg (N := 3) ?hd (cs := #[.int .i64 a1_0, .int .i64 a1_1, .int .i64 a1_2, .int .i64 a1_3]) (t := 23) ?hr ?_; (case hd => rfl); (case hg => rfl); (case hr => first | (go_simp; done) | (go_simp; rfl)); intro gb443 hg w5 hbox hb; have n0_ := bt HB hb; have n1_ := Aside0.mk (hbox); have n2_ := gx hg HB; have n3_ := gx hg HB; clear HB; have HB := n0_; have BK443 := n1_; have GW443 := n2_; have GE443 := n3_; clear n0_ n1_ n2_ n3_; clear hb hbox hg; obtain ⟨hcz6_0, hcz6_1, hcz6_2, hcz6_3, hfz6_0, hfz6_1, hfz6_2, hfz6_3⟩ := cz4 BK443) | ((with_reducible refine gate_callee (f := 97) rfl ?_); refine gL 7 Try.func97 #[.slice A0 l0.length c0, .agg #[.int .i64 a1_0, .int .i64 a1_1, .int .i64 a1_2, .int .i64 a1_3]] ?_; (with_reducible refine (impl_with.calls _ _ l0 a1_0 a1_1 a1_2 a1_3 t444 _ ?side1 ?side2 A3.out).mono ?_); (case side1 => repeat (first | exact (Kd.C_below HR0.out HB.out) | (with_reducible refine Kd.C_alloc ?_ _) | (with_reducible refine Kd.C_drewN ?_ _) | (with_reducible refine Kd.C_drew ?_))); (case side2 => exact HC0.out); rintro e w7 ⟨v445, rfl, ho0, hb⟩; refine ⟨_, rfl, ?_⟩; have n0_ := Aside0.mk (Kd.R_lower (Kd.R_newB ho0 (g := gb443) (o := .cells #[.int .i64 a1_0, .int .i64 a1_1, .int .i64 a1_2, .int .i64 a1_3] 23 (0, 0)) (kbx BK443)) (below_size (hbx HB))); have n1_ := kb BK443 hb; have n2_ := bt HB hb; clear BK443; clear HB; have HO446 := n0_; have BK443 := n1_; have HB := n2_; clear n0_ n1_ n2_; (try clear hb); (try clear hb2); (try clear hk); (try clear hi); (try clear ho0); obtain ⟨Ao8, co8, eo8⟩ := Kd.R_slice HO446.out; subst eo8) | ((with_reducible refine gate_callee (f := 41) rfl ?_); refine gL 8 Try.func41 #[.slice Ao8 t444.length co8] ?_; (with_reducible refine (impl_Open.calls k _ _ t444 t447 _ ?side1 ?side2 A4.out).mono ?_); (case side1 => repeat (first | exact (Kd.R_reads' HO446.out).2.2 | (with_reducible refine Kd.C_alloc ?_ _) | (with_reducible refine Kd.C_drewN ?_ _) | (with_reducible refine Kd.C_drew ?_))); (case side2 => exact (Kd.R_reads' HO446.out).2.1); rintro e w9 ⟨rfl, hb⟩; refine ⟨_, rfl, ?_⟩; have n0_ := Aside0.mk (Kd.R_below (by (with_reducible repeat (first | apply Kd.R_alloc | apply Kd.R_drewN | apply Kd.R_drew)); exact HO446.out) hb); have n1_ := kb BK443 hb; have n2_ := bt HB hb; clear HO446; clear BK443; clear HB; have HO446 := n0_; have BK443 := n1_; have HB := n2_; clear n0_ n1_ n2_; (try clear hb); (try clear hb2); (try clear hk); (try clear hi)))
 go_ret
 exact fin HB

end Go.Proofs.Ytndedincanmaeaa.Print
