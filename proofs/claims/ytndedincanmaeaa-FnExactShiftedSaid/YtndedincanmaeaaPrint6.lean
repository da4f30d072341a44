-- Printed by a program of the session (mkprinter.py, over the kit's print); Lean checks it.
import Derived.Test.YtndedincanmaeaaCp
import Derived.Test.YtndedincanmaeaaPrint0
import Derived.Test.YtndedincanmaeaaPrint3
import Derived.Test.YtndedincanmaeaaPrint4
import Derived.Test.YtndedincanmaeaaPrint5
namespace Go.Proofs.Ytndedincanmaeaa.Print
open Go.RowKit Go.Proofs.YtndedincanmaeaaW.PrintWords Go.Proofs.YtndedincanmaeaaW.PrintLast Go.Proofs.Ytndedincanmaeaa.Cp
set_option linter.unusedVariables false
set_option linter.unusedSimpArgs false

/-! ### spec_l1Gcd: function 173 -/
def spec_l1Gcd.l0 : Nat → List Int → List Int → Option (List Int)
 | 0, _, _ => none
 | k + 1, x0, x1 => if (x1.length : Int) > 0 then ((spec_l1DivMag.f k x0 x1).bind fun bt226 => (spec_l1Gcd.l0 k x1 bt226.2)) else (some x0)
def spec_l1Gcd.f (k : Nat) (l0 : List Int) (l1 : List Int) : Option (List Int) := spec_l1Gcd.l0 k l0 l1
theorem spec_l1Gcd.mono_l : ∀ k, (∀ y0 y1, LeO (spec_l1Gcd.l0 k y0 y1) (spec_l1Gcd.l0 (k + 1) y0 y1))
 | 0 => fun _ _ r h => by simp [spec_l1Gcd.l0] at h
 | k + 1 => by
  have ih0 := spec_l1Gcd.mono_l k
  intro y0 y1
  unfold spec_l1Gcd.l0
  repeat' first
  | (with_reducible exact ih0 _ _)
  | (with_reducible exact spec_l1DivMag.mono _ _ _)
  | (with_reducible exact LeO.refl _)
  | (with_reducible exact LeO.none _)
  | (with_reducible refine LeO.ite ?_ ?_)
  | (with_reducible refine LeO.bind ?_ (fun _ => ?_))
  | exact ih0 _ _
  | exact spec_l1DivMag.mono _ _ _
  | exact LeO.none _
  | refine LeO.ite ?_ ?_
  | refine LeO.bind ?_ (fun _ => ?_)
theorem spec_l1Gcd.mono : ∀ a0 a1 k, LeO (spec_l1Gcd.f k a0 a1) (spec_l1Gcd.f (k + 1) a0 a1) := by
 intro a0 a1 k
 have ih0 := spec_l1Gcd.mono_l k
 unfold spec_l1Gcd.f
 repeat' first
   | (with_reducible exact ih0 _ _)
   | (with_reducible exact spec_l1DivMag.mono _ _ _)
   | (with_reducible exact LeO.refl _)
   | (with_reducible exact LeO.none _)
   | (with_reducible refine LeO.ite ?_ ?_)
   | (with_reducible refine LeO.bind ?_ (fun _ => ?_))
   | exact ih0 _ _
   | exact spec_l1DivMag.mono _ _ _
   | exact LeO.none _
   | refine LeO.ite ?_ ?_
   | refine LeO.bind ?_ (fun _ => ?_)
set_option maxHeartbeats 8000000 in
set_option maxRecDepth 100000 in
theorem spec_l1Gcd.calls (k : Nat) (P0_ : Nat → Prop) (A0 : Option Addr) (c0 : Nat) (l0 : List Int) (P1_ : Nat → Prop) (A1 : Option Addr) (c1 : Nat) (l1 : List Int) (r : List Int) (w : World) (hs0 : Kd.V (Kd.int .i64) 3 w w.heap.size (fun k_ => P0_ k_) (.slice A0 l0.length c0) l0) (hs1 : Kd.V (Kd.int .i64) 3 w w.heap.size (fun k_ => P1_ k_) (.slice A1 l1.length c1) l1) (h : spec_l1Gcd.f k l0 l1 = some r) :
  Calls Try.prog 173 #[.slice A0 l0.length c0, .slice A1 l1.length c1] w fun e w' => ∃ v0_ : Value, e = .returned (v0_) ∧ Kd.V (Kd.int .i64) 3 w' w.heap.size (fun k_ => ((P0_ k_ ∨ P1_ k_) ∨ w.heap.size ≤ k_)) v0_ r ∧ Below w.heap.size w w' := by
 have HO0 := Aside0.mk (show Kd.V (Kd.int .i64) 3 w w.heap.size (fun k_ => ((P0_ k_ ∨ P1_ k_) ∨ w.heap.size ≤ k_)) (.slice A0 l0.length c0) l0 from Kd.V_mono hs0 (fun k_ hk => .inl (.inl hk)))
 have HO1 := Aside0.mk (show Kd.V (Kd.int .i64) 3 w w.heap.size (fun k_ => ((P0_ k_ ∨ P1_ k_) ∨ w.heap.size ≤ k_)) (.slice A1 l1.length c1) l1 from Kd.V_mono hs1 (fun k_ hk => .inl (.inr hk)))
 have HB := Aside0.mk (Below.refl w.heap.size w)
 have H : (spec_l1Gcd.l0 k l0 l1) = some r := h
 clear h
 have H' := Aside0.mk H
 clear H
 go_enter Try.func173, Try.ntmps173
 go_wp2
 go_loopg [0, 1] k (fun kq v0 v1 w' => ∃ (x0_1 : List Int) (x1_1 : List Int), Aside0 (spec_l1Gcd.l0 kq x0_1 x1_1 = some r) ∧ Aside0 (kq ≤ k) ∧ Aside0 (Kd.V (Kd.int .i64) 3 w' w.heap.size (fun k_ => ((P0_ k_ ∨ P1_ k_) ∨ w.heap.size ≤ k_)) v0 x0_1) ∧ Aside0 (Kd.V (Kd.int .i64) 3 w' w.heap.size (fun k_ => ((P0_ k_ ∨ P1_ k_) ∨ w.heap.size ≤ k_)) v1 x1_1) ∧ Aside0 (Below w.heap.size w w'))
 case atStart => exact ⟨(l0), (l1), H', ⟨Nat.le_refl _⟩, ⟨by (with_reducible repeat (first | apply Kd.V_alloc | apply Kd.V_drewN | apply Kd.V_drew)); exact HO0.out⟩, ⟨by (with_reducible repeat (first | apply Kd.V_alloc | apply Kd.V_drewN | apply Kd.V_drew)); exact HO1.out⟩, ⟨by repeat (first | (with_reducible first | exact HB.out | apply below_alloc | apply pw_below_drewN | apply below_drew1) | exact HB.out)⟩⟩
 case round =>
  clear H'
  try clear c1
  try clear p2
  obtain ⟨x0_1, x1_1, HA, HK1, HO_0, HO_1, HB⟩ := hrel
  cases gk with
  | zero => exact absurd HA.out (by simp [spec_l1Gcd.l0])
  | succ k1 =>
   have H := HA.out
   clear HA
   simp only [spec_l1Gcd.l0] at H
   by_cases c3 : (x1_1.length : Int) > 0
   ·rw [if_pos c3] at H
    have c3b0 : decide (0 < (x1_1.length : Int)) = true := decide_eq_true c3
    have c3b1 : decide (0 < x1_1.length) = true := decide_eq_true (by omega)
    clear c3
    obtain ⟨⟨t226, t227⟩, A4, H⟩ := bi H
    dsimp only at H
    have H' := Aside0.mk H
    clear H
    obtain ⟨Ao5, co5, eo5⟩ := Kd.V_slice HO_1.out
    subst eo5
    obtain ⟨Ao6, co6, eo6⟩ := Kd.V_slice HO_0.out
    subst eo6
    go_wp2_with (first | ((with_reducible refine gate_callee (f := 132) rfl ?_); refine gL 13 Try.func132 #[.slice Ao6 x0_1.length co6, .slice Ao5 x1_1.length co5] ?_; (with_reducible refine (spec_l1DivMag.calls k1 _ _ x0_1 _ _ x1_1 t226 t227 _ ?side1 ?side2 ?side3 ?side4 A4.out).mono ?_); (case side1 => repeat (first | exact (Kd.V_reads' HO_0.out).2.2 | (with_reducible refine Kd.C_alloc ?_ _) | (with_reducible refine Kd.C_drewN ?_ _) | (with_reducible refine Kd.C_drew ?_))); (case side2 => exact (Kd.V_reads' HO_0.out).2.1); (case side3 => repeat (first | exact (Kd.V_reads' HO_1.out).2.2 | (with_reducible refine Kd.C_alloc ?_ _) | (with_reducible refine Kd.C_drewN ?_ _) | (with_reducible refine Kd.C_drew ?_))); (case side4 => exact (Kd.V_reads' HO_1.out).2.1); rintro e w7 ⟨v228, v230, rfl, ho0, ho1, hb⟩; refine ⟨_, rfl, ?_⟩; replace HO_0 := Aside0.mk (Kd.V_mono (Kd.V_told (Kd.V_told (Kd.V_old (by (with_reducible repeat (first | apply Kd.V_alloc | apply Kd.V_drewN | apply Kd.V_drew)); exact HO_0.out) hb) (Kd.R_base ho0)) (Kd.R_base ho1)) (fun _ h_ => h_.1)); replace HO_1 := Aside0.mk (Kd.V_mono (Kd.V_told (Kd.V_told (Kd.V_old (by (with_reducible repeat (first | apply Kd.V_alloc | apply Kd.V_drewN | apply Kd.V_drew)); exact HO_1.out) hb) (Kd.R_base ho0)) (Kd.R_base ho1)) (fun _ h_ => h_.1)); have HO229 := Aside0.mk (Kd.R_lower (Kd.R_newM (M := fun k_ => (w.heap.size ≤ k_)) ho0 (below_size (hbx HB)) (fun k_ h_ => h_)) (below_size (hbx HB))); have HO231 := Aside0.mk (Kd.R_lower (Kd.R_newM (M := fun k_ => (w.heap.size ≤ k_)) ho1 (below_size (hbx HB)) (fun k_ h_ => h_)) (below_size (hbx HB))); replace HB := bt HB hb; (try clear hb); (try clear hb2); (try clear hk); (try clear hi); (try clear ho0); (try clear ho1)))
    go_roundg k1
    case measure => have := HK1.out; omega
    case rel => exact ⟨(x1_1), (t227), H', ⟨by have := HK1.out; omega⟩, ⟨by (with_reducible repeat (first | apply Kd.V_alloc | apply Kd.V_drewN | apply Kd.V_drew)); exact Kd.V_mono HO_1.out (fun _ hk => hk.1.1)⟩, ⟨Kd.V_mono (Kd.R_V (by (with_reducible repeat (first | apply Kd.R_alloc | apply Kd.R_drewN | apply Kd.R_drew)); exact Kd.R_mono HO231.out (fun _ hk => hk.1))) (fun k_ hk => by first | exact ⟨(.inr (hk.1)), hk.2⟩ | exact (.inr (hk)))⟩, ⟨by repeat (first | (with_reducible first | exact HB.out | apply below_alloc | apply pw_below_drewN | apply below_drew1) | exact HB.out)⟩⟩
   rw [if_neg c3] at H
   have c3b0 : decide (0 < (x1_1.length : Int)) = false := decide_eq_false c3
   have c3b1 : decide (0 < x1_1.length) = false := decide_eq_false (by omega)
   clear c3
   obtain rfl := Option.some.inj H
   obtain ⟨Ao8, co8, eo8⟩ := Kd.V_slice HO_1.out
   subst eo8
   go_wp2
   go_ret
   exact ⟨_, by first | rfl | (simp [errW_none, errW_some] <;> rfl) | (simp [*, errW_none, errW_some] <;> rfl), by (with_reducible repeat (first | apply Kd.V_alloc | apply Kd.V_drewN | apply Kd.V_drew)); exact HO_0.out, by repeat (first | (with_reducible first | exact HB.out | apply below_alloc | apply pw_below_drewN | apply below_drew1) | exact HB.out)⟩

/-! ### spec_Gcd: function 154 -/
def spec_Gcd.f (k : Nat) (a0_0 : Bool) (l0_1 : List Int) (a1_0 : Bool) (l1_1 : List Int) : Option (Bool × List Int) := (spec_l1Mag.f k a0_0 l0_1).bind fun t235 => ((spec_l1Mag.f k a1_0 l1_1).bind fun t238 => ((spec_l1Gcd.f k t235 t238).bind fun t241 => ((spec_l1Num.f k false t241).bind fun bt244 => (some (bt244.1, bt244.2)))))
theorem spec_Gcd.mono : ∀ a0 a1 a2 a3 k, LeO (spec_Gcd.f k a0 a1 a2 a3) (spec_Gcd.f (k + 1) a0 a1 a2 a3) := by
 intro a0 a1 a2 a3 k
 unfold spec_Gcd.f
 repeat' first
   | (with_reducible exact spec_l1Gcd.mono _ _ _)
   | (with_reducible exact spec_l1Mag.mono _ _ _)
   | (with_reducible exact spec_l1Num.mono _ _ _)
   | (with_reducible exact LeO.refl _)
   | (with_reducible exact LeO.none _)
   | (with_reducible refine LeO.ite ?_ ?_)
   | (with_reducible refine LeO.bind ?_ (fun _ => ?_))
   | exact spec_l1Gcd.mono _ _ _
   | exact spec_l1Mag.mono _ _ _
   | exact spec_l1Num.mono _ _ _
   | exact LeO.none _
   | refine LeO.ite ?_ ?_
   | refine LeO.bind ?_ (fun _ => ?_)
set_option maxHeartbeats 8000000 in
set_option maxRecDepth 100000 in
theorem spec_Gcd.calls (k : Nat) (a0_0 : Bool) (A0_1 : Option Addr) (c0_1 : Nat) (l0_1 : List Int) (a1_0 : Bool) (A1_1 : Option Addr) (c1_1 : Nat) (l1_1 : List Int) (r1 : Bool) (r2 : List Int) (w : World) (hr0_1 : Kd.C (Kd.int .i64) w A0_1 l0_1.length l0_1) (hc0_1 : l0_1.length ≤ c0_1) (hr1_1 : Kd.C (Kd.int .i64) w A1_1 l1_1.length l1_1) (hc1_1 : l1_1.length ≤ c1_1) (h : spec_Gcd.f k a0_0 l0_1 a1_0 l1_1 = some (r1, r2)) :
  Calls Try.prog 154 #[.agg #[.bool a0_0, .slice A0_1 l0_1.length c0_1], .agg #[.bool a1_0, .slice A1_1 l1_1.length c1_1]] w fun e w' => ∃ v1_ : Value, e = .returned (.agg #[.bool r1, v1_]) ∧ Kd.R (Kd.int .i64) 3 w' w.heap.size (fun _ => True) v1_ r2 ∧ Below w.heap.size w w' := by
 have hu116 := Try.underlying116
 have HR0_1 := Aside0.mk hr0_1
 have HC0_1 := Aside0.mk hc0_1
 clear hr0_1 hc0_1
 have HR1_1 := Aside0.mk hr1_1
 have HC1_1 := Aside0.mk hc1_1
 clear hr1_1 hc1_1
 have HB := Aside0.mk (Below.refl w.heap.size w)
 have H : ((spec_l1Mag.f k a0_0 l0_1).bind fun t235 => ((spec_l1Mag.f k a1_0 l1_1).bind fun t238 => ((spec_l1Gcd.f k t235 t238).bind fun t241 => ((spec_l1Num.f k false t241).bind fun bt244 => (some (bt244.1, bt244.2)))))) = some (r1, r2) := h
 clear h
 obtain ⟨t235, A3, H⟩ := bi H
 obtain ⟨t238, A4, H⟩ := bi H
 obtain ⟨t241, A5, H⟩ := bi H
 obtain ⟨⟨t244, t245⟩, A6, H⟩ := bi H
 dsimp only at H
 simp only [Option.some.injEq, Prod.mk.injEq] at H
 obtain ⟨rfl, rfl⟩ := H
 go_enter Try.func154, Try.ntmps154
 try go_wp2_with (first | ((with_reducible refine gate_dst (N := 2) rfl ?_); refine box_event ?hg (N := 2) ?hd (cs := #[.bool a0_0, .slice A0_1 l0_1.length c0_1]) (t := 116) ?hr ?_; (case hd => rfl); (case hg => rfl); (case hr => first | (go_simp; done) | (go_simp; rfl)); intro g1 hg w7 hbox hb; have bK1 := Aside0.mk (hbox); have bW1 := gx hg HB; have bE1 := gx hg HB; replace HB := bt HB hb; clear hb hbox hg) | ((with_reducible refine gate_dst (N := 3) rfl ?_); refine box_event ?hg (N := 3) ?hd (cs := #[.bool a1_0, .slice A1_1 l1_1.length c1_1]) (t := 116) ?hr ?_; (case hd => rfl); (case hg => rfl); (case hr => first | (go_simp; done) | (go_simp; rfl)); intro g2 hg w8 hbox hb; have n0_ := kb bK1 hb; have n1_ := bt HB hb; have n2_ := Aside0.mk (hbox); have n3_ := gx hg HB; have n4_ := gx hg HB; have n5_ := nl hg bK1; have n6_ := nr hg bK1; clear bK1; clear HB; have bK1 := n0_; have HB := n1_; have bK2 := n2_; have bW2 := n3_; have bE2 := n4_; have bN1_2 := n5_; have bN2_1 := n6_; clear n0_ n1_ n2_ n3_ n4_ n5_ n6_; clear hb hbox hg) | ((with_reducible refine gate_dst (N := 4) rfl ?_); refine box_event ?hg (N := 4) ?hd (cs := #[.bool false, .slice none 0 0]) (t := 116) ?hr ?_; (case hd => rfl); (case hg => rfl); (case hr => first | (go_simp; done) | (go_simp; rfl)); intro g3 hg w9 hbox hb; have n0_ := kb bK1 hb; have n1_ := kb bK2 hb; have n2_ := bt HB hb; have n3_ := Aside0.mk (hbox); have n4_ := gx hg HB; have n5_ := gx hg HB; have n6_ := nl hg bK1; have n7_ := nr hg bK1; have n8_ := nl hg bK2; have n9_ := nr hg bK2; clear bK1; clear bK2; clear HB; have bK1 := n0_; have bK2 := n1_; have HB := n2_; have bK3 := n3_; have bW3 := n4_; have bE3 := n5_; have bN1_3 := n6_; have bN3_1 := n7_; have bN2_3 := n8_; have bN3_2 := n9_; clear n0_ n1_ n2_ n3_ n4_ n5_ n6_ n7_ n8_ n9_; clear hb hbox hg))
 replace bK1 := Aside0.mk (blk_drew bK1.out)
 replace bK2 := Aside0.mk (blk_drew bK2.out)
 replace bK3 := Aside0.mk (blk_drew bK3.out)
 replace HB := Aside0.mk (below_drew1 HB.out)
 refine start_ (n := 7) (S := fun w' => w'.cell? ⟨g1, 0, none⟩ = some (.bool a0_0) ∧ w'.cell? ⟨g1, 1, none⟩ = some (.slice A0_1 l0_1.length c0_1) ∧ w'.cell? ⟨g2, 0, none⟩ = some (.bool a1_0) ∧ w'.cell? ⟨g2, 1, none⟩ = some (.slice A1_1 l1_1.length c1_1)) (ds := []) (bl 7 0) (by kernel_rfl) rfl rfl ⟨(blk_cell bK1.out 0).trans rfl, (blk_cell bK1.out 1).trans rfl, (blk_cell bK2.out 0).trans rfl, (blk_cell bK2.out 1).trans rfl⟩ (fun hHeld => ?_)
 generalize w9.drew = w10 at bK1 bK2 bK3 HB hHeld ⊢
 refine take_ (i := 0) (N := some 5) (v := ?_) (a' := ?_) (bl 7 1) rfl rfl (by kernel_rfl) (fun _ _ _ h => h) (Or.inl ⟨by rfl, ?_⟩) hHeld ?_ ?_
 rotate_left
 ·rintro w' ⟨s0, s1, s2, s3⟩
  go_simp
  with_reducible rfl
 rotate_left
 ·simp only [Act.put, List.setIfInBounds_toArray, List.set_cons_zero, List.set_cons_succ, i64_w, i32_w]
  rfl
 refine take_ (i := 2) (N := some 7) (v := ?_) (a' := ?_) (bl 7 5) rfl rfl (by kernel_rfl) (fun _ _ _ h => h) (Or.inl ⟨by rfl, ?_⟩) hHeld ?_ ?_
 rotate_left
 ·rintro w' ⟨s0, s1, s2, s3⟩
  go_simp
  with_reducible rfl
 rotate_left
 ·simp only [Act.put, List.setIfInBounds_toArray, List.set_cons_zero, List.set_cons_succ, i64_w, i32_w]
  rfl
 refine one_ (i := 1) (N := some 6) (bl 7 7) rfl rfl (by kernel_rfl) (by decide) (fun K hK => ?_)
 refine gO Try.func159 #[.agg #[.bool a0_0, .slice A0_1 l0_1.length c0_1]] ?_
 with_reducible refine (spec_l1Mag.calls k a0_0 (fun k_ => k_ < w.heap.size) _ _ l0_1 t235 _ ?side1 A3.out).mono ?_
 (case side1 => exact Kd.V_mk HC0_1.out (Kd.F_below (Kd.C_F (Kd.heap_int .i64) HR0_1.out) (hbx HB)))
 rintro e w11 ⟨v236, rfl, ho0, hb⟩
 refine ⟨_, rfl, ?_⟩
 have HO237 := Aside0.mk (Kd.V_lower (Kd.V_mono (ok' := fun k_ => k_ ≠ g1 ∧ k_ ≠ g2 ∧ k_ ≠ g3) ho0 (fun k_ hk_ => ⟨Or.elim hk_ (fun hs_ => fun e_ => Nat.not_le.2 hs_ (by rw [e_]; exact bW1.out)) (fun hn_ => (Kd.freshB (g := g1) (o := .cells #[.bool a0_0, .slice A0_1 l0_1.length c0_1] 116 (0, 0)) (kbx bK1) k_ hn_)), Or.elim hk_ (fun hs_ => fun e_ => Nat.not_le.2 hs_ (by rw [e_]; exact bW2.out)) (fun hn_ => (Kd.freshB (g := g2) (o := .cells #[.bool a1_0, .slice A1_1 l1_1.length c1_1] 116 (0, 0)) (kbx bK2) k_ hn_)), Or.elim hk_ (fun hs_ => fun e_ => Nat.not_le.2 hs_ (by rw [e_]; exact bW3.out)) (fun hn_ => (Kd.freshB (g := g3) (o := .cells #[.bool false, .slice none 0 0] 116 (0, 0)) (kbx bK3) k_ hn_))⟩)) (below_size (hbx HB)))
 replace bK1 := kb bK1 hb
 replace bK2 := kb bK2 hb
 replace bK3 := kb bK3 hb
 replace HB := bt HB hb
 (try clear hb)
 (try clear hb2)
 (try clear hk)
 (try clear hi)
 (try clear ho0)
 refine ko hK (fun hHeld => ?_)
 clear hK K
 refine nm 6 ?_
 refine one_ (i := 3) (N := some 8) (bl 7 15) rfl rfl (by kernel_rfl) (by decide) (fun K hK => ?_)
 refine gO Try.func159 #[.agg #[.bool a1_0, .slice A1_1 l1_1.length c1_1]] ?_
 with_reducible refine (spec_l1Mag.calls k a1_0 (fun k_ => k_ < w.heap.size) _ _ l1_1 t238 _ ?side1 A4.out).mono ?_
 (case side1 => exact Kd.V_mk HC1_1.out (Kd.F_below (Kd.C_F (Kd.heap_int .i64) HR1_1.out) (hbx HB)))
 rintro e w12 ⟨v239, rfl, ho0, hb⟩
 refine ⟨_, rfl, ?_⟩
 replace HO237 := Aside0.mk (Kd.V_below (by (with_reducible repeat (first | apply Kd.V_alloc | apply Kd.V_drewN | apply Kd.V_drew)); exact HO237.out) hb)
 have HO240 := Aside0.mk (Kd.V_lower (Kd.V_mono (ok' := fun k_ => k_ ≠ g1 ∧ k_ ≠ g2 ∧ k_ ≠ g3) ho0 (fun k_ hk_ => ⟨Or.elim hk_ (fun hs_ => fun e_ => Nat.not_le.2 hs_ (by rw [e_]; exact bW1.out)) (fun hn_ => (Kd.freshB (g := g1) (o := .cells #[.bool a0_0, .slice A0_1 l0_1.length c0_1] 116 (0, 0)) (kbx bK1) k_ hn_)), Or.elim hk_ (fun hs_ => fun e_ => Nat.not_le.2 hs_ (by rw [e_]; exact bW2.out)) (fun hn_ => (Kd.freshB (g := g2) (o := .cells #[.bool a1_0, .slice A1_1 l1_1.length c1_1] 116 (0, 0)) (kbx bK2) k_ hn_)), Or.elim hk_ (fun hs_ => fun e_ => Nat.not_le.2 hs_ (by rw [e_]; exact bW3.out)) (fun hn_ => (Kd.freshB (g := g3) (o := .cells #[.bool false, .slice none 0 0] 116 (0, 0)) (kbx bK3) k_ hn_))⟩)) (below_size (hbx HB)))
 replace bK1 := kb bK1 hb
 replace bK2 := kb bK2 hb
 replace bK3 := kb bK3 hb
 replace HB := bt HB hb
 (try clear hb)
 (try clear hb2)
 (try clear hk)
 (try clear hi)
 (try clear ho0)
 obtain ⟨Ao13, co13, eo13⟩ := Kd.V_slice HO237.out
 (first | subst eo13 | (injection eo13 with f1_ f2_ f3_; have f4_ := f1_.symm; have f5_ := f3_.symm; clear f1_ f2_ f3_; subst f4_; subst f5_))
 obtain ⟨Ao14, co14, eo14⟩ := Kd.V_slice HO240.out
 (first | subst eo14 | (injection eo14 with f1_ f2_ f3_; have f4_ := f1_.symm; have f5_ := f3_.symm; clear f1_ f2_ f3_; subst f4_; subst f5_))
 refine ko hK (fun hHeld => ?_)
 clear hK K
 refine nm 8 ?_
 refine one_ (i := 4) (N := some 9) (bl 7 31) rfl rfl (by kernel_rfl) (by decide) (fun K hK => ?_)
 refine gO Try.func173 #[.slice Ao13 t235.length co13, .slice Ao14 t238.length co14] ?_
 with_reducible refine (spec_l1Gcd.calls k (fun k_ => (k_ ≠ g1 ∧ (k_ ≠ g2 ∧ k_ ≠ g3))) _ _ t235 (fun k_ => (k_ ≠ g1 ∧ (k_ ≠ g2 ∧ k_ ≠ g3))) _ _ t238 t241 _ ?side1 ?side2 A5.out).mono ?_
 (case side1 => exact HO237.out)
 (case side2 => exact HO240.out)
 rintro e w15 ⟨v242, rfl, ho0, hb⟩
 refine ⟨_, rfl, ?_⟩
 replace HO237 := Aside0.mk (Kd.V_below (by (with_reducible repeat (first | apply Kd.V_alloc | apply Kd.V_drewN | apply Kd.V_drew)); exact HO237.out) hb)
 replace HO240 := Aside0.mk (Kd.V_below (by (with_reducible repeat (first | apply Kd.V_alloc | apply Kd.V_drewN | apply Kd.V_drew)); exact HO240.out) hb)
 have HO243 := Aside0.mk (Kd.V_lower (Kd.V_mono (ok' := fun k_ => k_ ≠ g1 ∧ k_ ≠ g2 ∧ k_ ≠ g3) ho0 (fun k_ hk_ => ⟨Or.elim hk_ (fun hs_ => Or.elim hs_ (fun hs_ => hs_.1) (fun hs_ => hs_.1)) (fun hn_ => (Kd.freshB (g := g1) (o := .cells #[.bool a0_0, .slice A0_1 l0_1.length c0_1] 116 (0, 0)) (kbx bK1) k_ hn_)), Or.elim hk_ (fun hs_ => Or.elim hs_ (fun hs_ => hs_.2.1) (fun hs_ => hs_.2.1)) (fun hn_ => (Kd.freshB (g := g2) (o := .cells #[.bool a1_0, .slice A1_1 l1_1.length c1_1] 116 (0, 0)) (kbx bK2) k_ hn_)), Or.elim hk_ (fun hs_ => Or.elim hs_ (fun hs_ => hs_.2.2) (fun hs_ => hs_.2.2)) (fun hn_ => (Kd.freshB (g := g3) (o := .cells #[.bool false, .slice none 0 0] 116 (0, 0)) (kbx bK3) k_ hn_))⟩)) (below_size (hbx HB)))
 replace bK1 := kb bK1 hb
 replace bK2 := kb bK2 hb
 replace bK3 := kb bK3 hb
 replace HB := bt HB hb
 (try clear hb)
 (try clear hb2)
 (try clear hk)
 (try clear hi)
 (try clear ho0)
 obtain ⟨Ao16, co16, eo16⟩ := Kd.V_slice HO243.out
 (first | subst eo16 | (injection eo16 with f1_ f2_ f3_; have f4_ := f1_.symm; have f5_ := f3_.symm; clear f1_ f2_ f3_; subst f4_; subst f5_))
 refine ko hK (fun hHeld => ?_)
 clear hK K
 refine nm 9 ?_
 refine one_ (i := 5) (N := some 10) (bl 7 63) rfl rfl (by kernel_rfl) (by decide) (fun K hK => ?_)
 refine gO Try.func134 #[.bool false, .slice Ao16 t241.length co16] ?_
 with_reducible refine (spec_l1Num.calls k false _ _ t241 t244 t245 _ ?side1 ?side2 A6.out).mono ?_
 (case side1 => repeat (first | exact (Kd.V_reads' HO243.out).2.2 | (with_reducible refine Kd.C_alloc ?_ _) | (with_reducible refine Kd.C_drewN ?_ _) | (with_reducible refine Kd.C_drew ?_)))
 (case side2 => exact (Kd.V_reads' HO243.out).2.1)
 rintro e w17 ⟨v246, rfl, ho0, hb⟩
 refine ⟨_, rfl, ?_⟩
 replace HO237 := Aside0.mk (Kd.V_elder' (by (with_reducible repeat (first | apply Kd.V_alloc | apply Kd.V_drewN | apply Kd.V_drew)); exact HO237.out) (Kd.R_base ho0) hb)
 replace HO240 := Aside0.mk (Kd.V_elder' (by (with_reducible repeat (first | apply Kd.V_alloc | apply Kd.V_drewN | apply Kd.V_drew)); exact HO240.out) (Kd.R_base ho0) hb)
 replace HO243 := Aside0.mk (Kd.V_elder' (by (with_reducible repeat (first | apply Kd.V_alloc | apply Kd.V_drewN | apply Kd.V_drew)); exact HO243.out) (Kd.R_base ho0) hb)
 have HO247 := Aside0.mk (Kd.R_lower ho0 (below_size (hbx HB)))
 replace bK1 := kb bK1 hb
 replace bK2 := kb bK2 hb
 replace bK3 := kb bK3 hb
 replace HB := bt HB hb
 (try clear hb)
 (try clear hb2)
 (try clear hk)
 (try clear hi)
 (try clear ho0)
 obtain ⟨Ao19, co19, eo19⟩ := Kd.R_slice HO247.out
 (first | subst eo19 | (injection eo19 with f1_ f2_ f3_; have f4_ := f1_.symm; have f5_ := f3_.symm; clear f1_ f2_ f3_; subst f4_; subst f5_))
 refine ko hK (fun hHeld => ?_)
 clear hK K
 refine nm 10 ?_
 refine one_ (i := 6) (N := none) (bl 7 127) rfl rfl (by kernel_rfl) (by decide) (fun K hK => ?_)
 have hs18 : w17.cell? ⟨g3, 0, none⟩ = some (.bool false) := (blk_cell bK3.out 0).trans rfl
 have hfs18 := blk_frozen bK3.out 0
 have hns18_0 := bN1_3.out
 have hns18_1 := bN2_3.out
 have hms18_0 := bN3_1.out
 have hms18_1 := bN3_2.out
 have hs20 : w17.cell? ⟨g3, 1, none⟩ = some (.slice none 0 0) := (blk_cell bK3.out 1).trans rfl
 have hfs20 := blk_frozen bK3.out 1
 have hns20_0 := bN1_3.out
 have hns20_1 := bN2_3.out
 have hms20_0 := bN3_1.out
 have hms20_1 := bN3_2.out
 refine skip_ (w1 := ?_) (by rfl) rfl ?_ ?_
 rotate_left
 ·go_simp
  rfl
 refine hK.out _ _ ⟨((cell_far (p := ⟨g3, _, none⟩) bN1_3.out _).trans (((cell_far (p := ⟨g3, _, none⟩) bN1_3.out _).trans (hHeld.1)))), ((cell_far (p := ⟨g3, _, none⟩) bN1_3.out _).trans (((cell_far (p := ⟨g3, _, none⟩) bN1_3.out _).trans (hHeld.2.1)))), ((cell_far (p := ⟨g3, _, none⟩) bN2_3.out _).trans (((cell_far (p := ⟨g3, _, none⟩) bN2_3.out _).trans (hHeld.2.2.1)))), ((cell_far (p := ⟨g3, _, none⟩) bN2_3.out _).trans (((cell_far (p := ⟨g3, _, none⟩) bN2_3.out _).trans (hHeld.2.2.2))))⟩ (fun hHeld => ?_)
 clear hK K
 refine done_ (by kernel_rfl) ?_
 try go_wp2
 refine bodyPost_ret (results_cell_row rfl _ _ g3 116 #[.bool t244, .slice Ao19 t245.length co19] (0, 0) _ rfl (by (with_reducible repeat (first | refine blk_drewN ?_ _ | refine blk_drew ?_ | refine blk_alloc ?_ _)); refine blk_put (cs := #[.bool t244, .slice none 0 0]) ?_ 1 _ rfl; (with_reducible repeat (first | refine blk_drewN ?_ _ | refine blk_drew ?_ | refine blk_alloc ?_ _)); refine blk_put (cs := #[.bool false, .slice none 0 0]) ?_ 0 _ rfl; (with_reducible repeat (first | refine blk_drewN ?_ _ | refine blk_drew ?_ | refine blk_alloc ?_ _)); exact bK3.out) Try.underlying116 rfl (by kernel_rfl)) rfl ?_
 exact ⟨_, by first | rfl | (simp [errW_none, errW_some] <;> rfl) | (simp [*, errW_none, errW_some] <;> rfl), by (with_reducible repeat (first | apply Kd.R_alloc | apply Kd.R_drewN | apply Kd.R_drew)); exact Kd.R_mono (Kd.R_far (p := ⟨g3, 1, none⟩) (Kd.R_far (p := ⟨g3, 0, none⟩) (Kd.R_types HO247.out bK3.out (by decide)) (fun _ hk => hk.2) (.bool t244)) (fun _ hk => hk.2) (.slice Ao19 t245.length co19)) (fun _ hk => trivial), by repeat (first | (with_reducible first | exact HB.out | apply below_alloc | apply pw_below_drewN | apply below_drew1 | refine below_set ?_ bE1.out | refine below_set ?_ bE2.out | refine below_set ?_ bE3.out) | exact HB.out)⟩

/-! ### spec_l3NumGcd: function 131 -/
def spec_l3NumGcd.l0 : Nat → List (S116) → Int → Bool → List Int → Option (Bool × List Int)
 | 0, _, _, _, _ => none
 | k + 1, x0, x4, x254000, x254001 => if x4 < (x0.length : Int) then (if 0 ≤ x4 then ((spec_Gcd.f k x254000 x254001 ((rd_T116 x0 x4).f0) ((rd_T116 x0 x4).f1)).bind fun bt255 => (spec_l3NumGcd.l0 k x0 (wrap64 (x4 + 1)) bt255.1 bt255.2)) else (none)) else (some (x254000, x254001))
def spec_l3NumGcd.f (k : Nat) (l0 : List (S116)) : Option (Bool × List Int) := (spec_Of.f k 0).bind fun bt249 => (spec_l3NumGcd.l0 k l0 0 bt249.1 bt249.2)
theorem spec_l3NumGcd.mono_l : ∀ k, (∀ y0 y1 y2 y3, LeO (spec_l3NumGcd.l0 k y0 y1 y2 y3) (spec_l3NumGcd.l0 (k + 1) y0 y1 y2 y3))
 | 0 => fun _ _ _ _ r h => by simp [spec_l3NumGcd.l0] at h
 | k + 1 => by
  have ih0 := spec_l3NumGcd.mono_l k
  intro y0 y1 y2 y3
  unfold spec_l3NumGcd.l0
  repeat' first
  | (with_reducible exact ih0 _ _ _ _)
  | (with_reducible exact spec_Gcd.mono _ _ _ _ _)
  | (with_reducible exact spec_Of.mono _ _)
  | (with_reducible exact LeO.refl _)
  | (with_reducible exact LeO.none _)
  | (with_reducible refine LeO.ite ?_ ?_)
  | (with_reducible refine LeO.bind ?_ (fun _ => ?_))
  | exact ih0 _ _ _ _
  | exact spec_Gcd.mono _ _ _ _ _
  | exact spec_Of.mono _ _
  | exact LeO.none _
  | refine LeO.ite ?_ ?_
  | refine LeO.bind ?_ (fun _ => ?_)
theorem spec_l3NumGcd.mono : ∀ a0 k, LeO (spec_l3NumGcd.f k a0) (spec_l3NumGcd.f (k + 1) a0) := by
 intro a0 k
 have ih0 := spec_l3NumGcd.mono_l k
 unfold spec_l3NumGcd.f
 repeat' first
   | (with_reducible exact ih0 _ _ _ _)
   | (with_reducible exact spec_Gcd.mono _ _ _ _ _)
   | (with_reducible exact spec_Of.mono _ _)
   | (with_reducible exact LeO.refl _)
   | (with_reducible exact LeO.none _)
   | (with_reducible refine LeO.ite ?_ ?_)
   | (with_reducible refine LeO.bind ?_ (fun _ => ?_))
   | exact ih0 _ _ _ _
   | exact spec_Gcd.mono _ _ _ _ _
   | exact spec_Of.mono _ _
   | exact LeO.none _
   | refine LeO.ite ?_ ?_
   | refine LeO.bind ?_ (fun _ => ?_)
set_option maxHeartbeats 8000000 in
set_option maxRecDepth 100000 in
theorem spec_l3NumGcd.calls (k : Nat) (A0 : Option Addr) (c0 : Nat) (l0 : List (S116)) (r1 : Bool) (r2 : List Int) (w : World) (hr0 : Kd.C k116 w A0 l0.length l0) (hc0 : l0.length ≤ c0) (h : spec_l3NumGcd.f k l0 = some (r1, r2)) :
  Calls Try.prog 131 #[.slice A0 l0.length c0] w fun e w' => ∃ v1_ : Value, e = .returned (.agg #[.bool r1, v1_]) ∧ Kd.R (Kd.int .i64) 3 w' w.heap.size (fun _ => True) v1_ r2 ∧ Below w.heap.size w w' := by
 have hu116 := Try.underlying116
 have HR0 := Aside0.mk hr0
 have HC0 := Aside0.mk hc0
 clear hr0 hc0
 have HB := Aside0.mk (Below.refl w.heap.size w)
 have H : ((spec_Of.f k 0).bind fun bt249 => (spec_l3NumGcd.l0 k l0 0 bt249.1 bt249.2)) = some (r1, r2) := h
 clear h
 obtain ⟨⟨t249, t250⟩, A2, H⟩ := bi H
 dsimp only at H
 have H' := Aside0.mk H
 clear H
 go_enter Try.func131, Try.ntmps131
 go_wp2_with (first | ((with_reducible refine gate_dst (N := 2) rfl ?_); refine box_event ?hg (N := 2) ?hd (cs := #[.bool false, .slice none 0 0]) (t := 116) ?hr ?_; (case hd => rfl); (case hg => rfl); (case hr => first | (go_simp; done) | (go_simp; rfl)); intro g4 hg w3 hbox hb; have bK4 := Aside0.mk (hbox); have bW4 := gx hg HB; have bE4 := gx hg HB; replace HB := bt HB hb; clear hb hbox hg) | ((with_reducible refine gate_callee (f := 130) rfl ?_); refine gL 5 Try.func130 #[.int .i64 0] ?_; (with_reducible refine (spec_Of.calls k 0 t249 t250 _ A2.out).mono ?_); rintro e w4 ⟨v251, rfl, ho0, hb⟩; refine ⟨_, rfl, ?_⟩; have HO252 := Aside0.mk (Kd.R_lower ho0 (below_size (hbx HB))); replace bK4 := kb bK4 hb; replace HB := bt HB hb; (try clear hb); (try clear hb2); (try clear hk); (try clear hi); (try clear ho0)) | ((with_reducible refine gate_dst (N := 3) rfl ?_); refine box_event ?hg (N := 3) ?hd (cs := #[.bool false, .slice none 0 0]) (t := 116) ?hr ?_; (case hd => rfl); (case hg => rfl); (case hr => first | (go_simp; done) | (go_simp; rfl)); intro g5 hg w5 hbox hb; have n0_ := Aside0.mk (Kd.R_below (by (with_reducible repeat (first | apply Kd.R_alloc | apply Kd.R_drewN | apply Kd.R_drew)); exact HO252.out) hb); have n1_ := kb bK4 hb; have n2_ := bt HB hb; have n3_ := Aside0.mk (hbox); have n4_ := gx hg HB; have n5_ := gx hg HB; have n6_ := nl hg bK4; have n7_ := nr hg bK4; clear HO252; clear bK4; clear HB; have HO252 := n0_; have bK4 := n1_; have HB := n2_; have bK5 := n3_; have bW5 := n4_; have bE5 := n5_; have bN4_5 := n6_; have bN5_4 := n7_; clear n0_ n1_ n2_ n3_ n4_ n5_ n6_ n7_; clear hb hbox hg; have hnb6 := bN5_4.out; have hnc6 := bN4_5.out; obtain ⟨hcz7_0, hcz7_1, hfz7_0, hfz7_1⟩ := cz2 bK5; obtain ⟨Ao8, co8, eo8⟩ := Kd.R_slice HO252.out; subst eo8))
 go_loopg [4] k (fun kq v4 w' => ∃ (x4_1 : Int) (x254000_1 : Bool) (x254001_1 : List Int) (u254001 : Value), v4 = .int .i64 x4_1 ∧ Aside0 (spec_l3NumGcd.l0 kq l0 x4_1 x254000_1 x254001_1 = some (r1, r2)) ∧ Aside0 (kq ≤ k) ∧ Aside0 (Kd.R (Kd.int .i64) 3 w' w.heap.size (fun _ => True) u254001 x254001_1) ∧ Aside0 (w'.heap[g4]? = some (.cells #[.bool false, (.slice none 0 0)] 116 (0, 0))) ∧ Aside0 (w'.heap[g5]? = some (.cells #[.bool x254000_1, u254001] 116 (0, 0))) ∧ Aside0 (Below w.heap.size w w'))
 case atStart => exact ⟨(0), (t249), (t250), (.slice Ao8 t250.length co8), re, H', ⟨Nat.le_refl _⟩, ⟨by (with_reducible repeat (first | apply Kd.R_alloc | apply Kd.R_drewN | apply Kd.R_drew)); exact Kd.R_mono (Kd.R_far (p := ⟨g5, 1, none⟩) (Kd.R_far (p := ⟨g5, 0, none⟩) (Kd.R_types HO252.out bK5.out (by decide)) (fun _ hk => hk.2) (.bool t249)) (fun _ hk => hk.2) (.slice Ao8 t250.length co8)) (fun _ hk => trivial)⟩, ⟨by (with_reducible repeat (first | refine blk_drewN ?_ _ | refine blk_drew ?_ | refine blk_alloc ?_ _)); refine blk_far ?_ bN4_5.out _; (with_reducible repeat (first | refine blk_drewN ?_ _ | refine blk_drew ?_ | refine blk_alloc ?_ _)); refine blk_far ?_ bN4_5.out _; (with_reducible repeat (first | refine blk_drewN ?_ _ | refine blk_drew ?_ | refine blk_alloc ?_ _)); exact bK4.out⟩, ⟨by (with_reducible repeat (first | refine blk_drewN ?_ _ | refine blk_drew ?_ | refine blk_alloc ?_ _)); refine blk_put (cs := #[.bool t249, .slice none 0 0]) ?_ 1 _ rfl; (with_reducible repeat (first | refine blk_drewN ?_ _ | refine blk_drew ?_ | refine blk_alloc ?_ _)); refine blk_put (cs := #[.bool false, .slice none 0 0]) ?_ 0 _ rfl; (with_reducible repeat (first | refine blk_drewN ?_ _ | refine blk_drew ?_ | refine blk_alloc ?_ _)); exact bK5.out⟩, ⟨by repeat (first | (with_reducible first | exact HB.out | apply below_alloc | apply pw_below_drewN | apply below_drew1 | refine below_set ?_ bE4.out | refine below_set ?_ bE5.out) | exact HB.out)⟩⟩
 case round =>
  clear H'
  try clear c1
  try clear p2
  try clear c6
  try clear p6
  try clear hcz7_0
  try clear hcz7_1
  try clear hfz7_0
  try clear hfz7_1
  obtain ⟨x4_1, x254000_1, x254001_1, u254001, rfl, HA, HK1, HO_254001, bK4, bK5, HB⟩ := hrel
  cases gk with
  | zero => exact absurd HA.out (by simp [spec_l3NumGcd.l0])
  | succ k1 =>
   have H := HA.out
   clear HA
   simp only [spec_l3NumGcd.l0] at H
   by_cases c9 : x4_1 < (l0.length : Int)
   ·rw [if_pos c9] at H
    have c9b0 : decide (x4_1 < (l0.length : Int)) = true := decide_eq_true c9
    clear c9
    by_cases c10 : 0 ≤ x4_1
    ·rw [if_pos c10] at H
     have c10b0 : decide (0 ≤ x4_1) = true := decide_eq_true c10
     clear c10
     obtain ⟨⟨t255, t256⟩, A11, H⟩ := bi H
     dsimp only at H
     have H' := Aside0.mk H
     clear H
     try go_wp2
     replace HO_254001 := Aside0.mk (Kd.R_drew HO_254001.out)
     replace bK4 := Aside0.mk (blk_drew bK4.out)
     replace bK5 := Aside0.mk (blk_drew bK5.out)
     replace HB := Aside0.mk (below_drew1 HB.out)
     have p254 : 0 ≤ (x4_1 : Int) := dk
     have q254 : x4_1 < (l0.length : Int) := dk
     obtain ⟨ad254, A254_1, c254_1, e254, hx254_0, hx254_1, hl254_1, hi254_1⟩ := at_T116 HR0.out x4_1 p254 q254
     have hw254_1 := hx254_1
     have hw254_0 := hx254_0
     cases e254
     replace hx254_0 := hc HB hx254_0
     replace hx254_1 := hc HB hx254_1
     have HR254_1 := Aside0.mk hi254_1
     have HC254_1 := Aside0.mk hl254_1
     clear hi254_1 hl254_1
     replace p254 := eq_true p254
     replace q254 := eq_true q254
     obtain ⟨Ao13, co13, eo13⟩ := Kd.R_slice HO_254001.out
     (first | subst eo13 | (injection eo13 with f1_ f2_ f3_; have f4_ := f1_.symm; have f5_ := f3_.symm; clear f1_ f2_ f3_; subst f4_; subst f5_))
     refine start_ (n := 7) (S := fun w' => w'.cell? ⟨g5, 0, none⟩ = some (.bool x254000_1) ∧ w'.cell? ⟨g5, 1, none⟩ = some (.slice Ao13 x254001_1.length co13) ∧ w'.cell? (ad254.add ((x4_1).toNat * 2)) = some (.bool ((rd_T116 l0 x4_1).f0)) ∧ w'.cell? ⟨(ad254.add ((x4_1).toNat * 2)).block, (ad254.add ((x4_1).toNat * 2)).off + 1, none⟩ = some (.slice A254_1 ((rd_T116 l0 x4_1).f1).length c254_1)) (ds := [6]) (bl 7 0) (by kernel_rfl) rfl rfl ⟨(blk_cell bK5.out 0).trans rfl, (blk_cell bK5.out 1).trans rfl, ((HB.out.cell (World.block_lt_of_cell? w _ hw254_0)).trans hw254_0), ((HB.out.cell (World.block_lt_of_cell? w _ hw254_1)).trans hw254_1)⟩ (fun hHeld => ?_)
     generalize wr.drew = w12 at HO_254001 bK4 bK5 HB HR254_1 hx254_0 hx254_1 hHeld ⊢
     refine pK 1 13 2 ?_
     refine pK 2 14 6 ?_
     refine pK 3 15 14 ?_
     refine take_ (i := 0) (N := some 12) (v := ?_) (a' := ?_) (bl 7 15) rfl rfl (by kernel_rfl) (fun _ _ _ h => h) (Or.inl ⟨by rfl, ?_⟩) hHeld ?_ ?_
     rotate_left
     ·rintro w' ⟨s0, s1, s2, s3⟩
      go_simp
      with_reducible rfl
     rotate_left
     ·simp only [Act.put, List.setIfInBounds_toArray, List.set_cons_zero, List.set_cons_succ, i64_w, i32_w]
      rfl
     refine take_ (i := 4) (N := some 16) (v := ?_) (a' := ?_) (bl 7 31) rfl rfl (by kernel_rfl) (fun _ _ _ h => h) (Or.inl ⟨by rfl, ?_⟩) hHeld ?_ ?_
     rotate_left
     ·rintro w' ⟨s0, s1, s2, s3⟩
      go_simp
      with_reducible rfl
     rotate_left
     ·simp only [Act.put, List.setIfInBounds_toArray, List.set_cons_zero, List.set_cons_succ, i64_w, i32_w]
      rfl
     refine one_ (i := 5) (N := some 17) (bl 7 63) rfl rfl (by kernel_rfl) (by decide) (fun K hK => ?_)
     refine gO Try.func154 #[.agg #[.bool x254000_1, .slice Ao13 x254001_1.length co13], .agg #[.bool ((rd_T116 l0 x4_1).f0), .slice A254_1 ((rd_T116 l0 x4_1).f1).length c254_1]] ?_
     with_reducible refine (spec_Gcd.calls k1 x254000_1 _ _ x254001_1 ((rd_T116 l0 x4_1).f0) _ _ ((rd_T116 l0 x4_1).f1) t255 t256 _ ?side1 ?side2 ?side3 ?side4 A11.out).mono ?_
     (case side1 => repeat (first | exact (Kd.R_reads' HO_254001.out).2.2 | (with_reducible refine Kd.C_alloc ?_ _) | (with_reducible refine Kd.C_drewN ?_ _) | (with_reducible refine Kd.C_drew ?_)))
     (case side2 => exact (Kd.R_reads' HO_254001.out).2.1)
     (case side3 => repeat (first | exact (Kd.C_below HR254_1.out HB.out) | (with_reducible refine Kd.C_alloc ?_ _) | (with_reducible refine Kd.C_drewN ?_ _) | (with_reducible refine Kd.C_drew ?_)))
     (case side4 => exact HC254_1.out)
     rintro e w14 ⟨v257, rfl, ho0, hb⟩
     refine ⟨_, rfl, ?_⟩
     have n0_ := Aside0.mk (Kd.R_elder' (by (with_reducible repeat (first | apply Kd.R_alloc | apply Kd.R_drewN | apply Kd.R_drew)); exact HO_254001.out) (Kd.R_base ho0) hb)
     have n1_ := Aside0.mk (Kd.R_lower (Kd.R_new' ho0 (Kd.R_lt (by (with_reducible repeat (first | apply Kd.R_alloc | apply Kd.R_drewN | apply Kd.R_drew)); exact HO_254001.out))) (below_size (hbx HB)))
     have n2_ := kb bK4 hb
     have n3_ := kb bK5 hb
     have n4_ := bt HB hb
     clear HO_254001
     clear bK4
     clear bK5
     clear HB
     have HO_254001 := n0_
     have HO258 := n1_
     have bK4 := n2_
     have bK5 := n3_
     have HB := n4_
     clear n0_ n1_ n2_ n3_ n4_
     (try clear hb)
     (try clear hb2)
     (try clear hk)
     (try clear hi)
     (try clear ho0)
     obtain ⟨Ao16, co16, eo16⟩ := Kd.R_slice HO258.out
     (first | subst eo16 | (injection eo16 with f1_ f2_ f3_; have f4_ := f1_.symm; have f5_ := f3_.symm; clear f1_ f2_ f3_; subst f4_; subst f5_))
     refine hK.out _ _ ⟨(blk_cell bK5.out 0).trans rfl, (blk_cell bK5.out 1).trans rfl, ((HB.out.cell (World.block_lt_of_cell? w _ hw254_0)).trans hw254_0), ((HB.out.cell (World.block_lt_of_cell? w _ hw254_1)).trans hw254_1)⟩ (fun hHeld => ?_)
     clear hK K
     refine nm 17 ?_
     refine last_ (i := 6) (N := none) (bl 7 127) rfl rfl (by kernel_rfl) (by decide) (fun K hK => ?_)
     have hs15 : w14.cell? ⟨g5, 0, none⟩ = some (.bool x254000_1) := (blk_cell bK5.out 0).trans rfl
     have hfs15 := blk_frozen bK5.out 0
     have hns15_0 := bN4_5.out
     have hms15_0 := bN5_4.out
     have hs17 : w14.cell? ⟨g5, 1, none⟩ = some (.slice Ao13 x254001_1.length co13) := (blk_cell bK5.out 1).trans rfl
     have hfs17 := blk_frozen bK5.out 1
     have hns17_0 := bN4_5.out
     have hms17_0 := bN5_4.out
     refine skip_ (w1 := ?_) (by rfl) rfl ?_ ?_
     rotate_left
     ·go_simp
      rfl
     refine hK.out _ _ ?_
     clear hK K
     refine done_ (by kernel_rfl) ?_
     try go_wp2
     go_roundg k1
     case measure => have := HK1.out; omega
     case rel => exact ⟨(wrap64 (x4_1 + 1)), (t255), (t256), (.slice Ao16 t256.length co16), re, H', ⟨by have := HK1.out; omega⟩, ⟨by (with_reducible repeat (first | apply Kd.R_alloc | apply Kd.R_drewN | apply Kd.R_drew)); exact Kd.R_mono (Kd.R_far (p := ⟨g5, 1, none⟩) (Kd.R_far (p := ⟨g5, 0, none⟩) (Kd.R_types HO258.out bK5.out (by decide)) (fun _ hk => hk.2) (.bool t255)) (fun _ hk => hk.2) (.slice Ao16 t256.length co16)) (fun _ hk => trivial)⟩, ⟨by (with_reducible repeat (first | refine blk_drewN ?_ _ | refine blk_drew ?_ | refine blk_alloc ?_ _)); refine blk_far ?_ bN4_5.out _; (with_reducible repeat (first | refine blk_drewN ?_ _ | refine blk_drew ?_ | refine blk_alloc ?_ _)); refine blk_far ?_ bN4_5.out _; (with_reducible repeat (first | refine blk_drewN ?_ _ | refine blk_drew ?_ | refine blk_alloc ?_ _)); exact bK4.out⟩, ⟨by (with_reducible repeat (first | refine blk_drewN ?_ _ | refine blk_drew ?_ | refine blk_alloc ?_ _)); refine blk_put (cs := #[.bool t255, .slice Ao13 x254001_1.length co13]) ?_ 1 _ rfl; (with_reducible repeat (first | refine blk_drewN ?_ _ | refine blk_drew ?_ | refine blk_alloc ?_ _)); refine blk_put (cs := #[.bool x254000_1, .slice Ao13 x254001_1.length co13]) ?_ 0 _ rfl; (with_reducible repeat (first | refine blk_drewN ?_ _ | refine blk_drew ?_ | refine blk_alloc ?_ _)); exact bK5.out⟩, ⟨by repeat (first | (with_reducible first | exact HB.out | apply below_alloc | apply pw_below_drewN | apply below_drew1 | refine below_set ?_ bE4.out | refine below_set ?_ bE5.out) | exact HB.out)⟩⟩
    rw [if_neg c10] at H
    exact absurd H (by simp)
   rw [if_neg c9] at H
   have c9b0 : decide (x4_1 < (l0.length : Int)) = false := decide_eq_false c9
   clear c9
   simp only [Option.some.injEq, Prod.mk.injEq] at H
   obtain ⟨rfl, rfl⟩ := H
   have hnb18 := bN5_4.out
   have hnc18 := bN4_5.out
   obtain ⟨hcz19_0, hcz19_1, hfz19_0, hfz19_1⟩ := cz2 bK5
   obtain ⟨hcz20_0, hcz20_1, hfz20_0, hfz20_1⟩ := cz2 bK4
   obtain ⟨Ao21, co21, eo21⟩ := Kd.R_slice HO_254001.out
   subst eo21
   go_wp2
   refine bodyPost_ret (results_cell_row rfl _ _ g4 116 #[.bool x254000_1, .slice Ao21 x254001_1.length co21] (0, 0) _ rfl (by (with_reducible repeat (first | refine blk_drewN ?_ _ | refine blk_drew ?_ | refine blk_alloc ?_ _)); refine blk_put (cs := #[.bool x254000_1, .slice none 0 0]) ?_ 1 _ rfl; (with_reducible repeat (first | refine blk_drewN ?_ _ | refine blk_drew ?_ | refine blk_alloc ?_ _)); refine blk_put (cs := #[.bool false, .slice none 0 0]) ?_ 0 _ rfl; (with_reducible repeat (first | refine blk_drewN ?_ _ | refine blk_drew ?_ | refine blk_alloc ?_ _)); exact bK4.out) Try.underlying116 rfl (by kernel_rfl)) rfl ?_
   exact ⟨_, by first | rfl | (simp [errW_none, errW_some] <;> rfl) | (simp [*, errW_none, errW_some] <;> rfl), by (with_reducible repeat (first | apply Kd.R_alloc | apply Kd.R_drewN | apply Kd.R_drew)); exact Kd.R_mono (Kd.R_far (p := ⟨g4, 1, none⟩) (Kd.R_far (p := ⟨g4, 0, none⟩) (Kd.R_types HO_254001.out bK4.out (by decide)) (fun _ hk => hk.2) (.bool x254000_1)) (fun _ hk => hk.2) (.slice Ao21 x254001_1.length co21)) (fun _ hk => trivial), by repeat (first | (with_reducible first | exact HB.out | apply below_alloc | apply pw_below_drewN | apply below_drew1 | refine below_set ?_ bE4.out | refine below_set ?_ bE5.out) | exact HB.out)⟩

/-! ### spec_l1Sign: function 160 -/
def spec_l1Sign.f (k : Nat) (a0_0 : Bool) (l0_1 : List Int) : Option (Bool) := (spec_NumOk.f k a0_0 l0_1).bind fun t260 => (if t260 = true then (some a0_0) else (some false))
theorem spec_l1Sign.mono : ∀ a0 a1 k, LeO (spec_l1Sign.f k a0 a1) (spec_l1Sign.f (k + 1) a0 a1) := by
 intro a0 a1 k
 unfold spec_l1Sign.f
 repeat' first
   | (with_reducible exact spec_NumOk.mono _ _ _)
   | (with_reducible exact LeO.refl _)
   | (with_reducible exact LeO.none _)
   | (with_reducible refine LeO.ite ?_ ?_)
   | (with_reducible refine LeO.bind ?_ (fun _ => ?_))
   | exact spec_NumOk.mono _ _ _
   | exact LeO.none _
   | refine LeO.ite ?_ ?_
   | refine LeO.bind ?_ (fun _ => ?_)
set_option maxHeartbeats 8000000 in
set_option maxRecDepth 100000 in
theorem spec_l1Sign.calls (k : Nat) (a0_0 : Bool) (A0_1 : Option Addr) (c0_1 : Nat) (l0_1 : List Int) (r : Bool) (w : World) (hr0_1 : Kd.C (Kd.int .i64) w A0_1 l0_1.length l0_1) (hc0_1 : l0_1.length ≤ c0_1) (h : spec_l1Sign.f k a0_0 l0_1 = some r) :
  Calls Try.prog 160 #[.agg #[.bool a0_0, .slice A0_1 l0_1.length c0_1]] w fun e w' => e = .returned (.bool r) ∧ Below w.heap.size w w' := by
 have hu116 := Try.underlying116
 have HR0_1 := Aside0.mk hr0_1
 have HC0_1 := Aside0.mk hc0_1
 clear hr0_1 hc0_1
 have HB := Aside0.mk (Below.refl w.heap.size w)
 have H : ((spec_NumOk.f k a0_0 l0_1).bind fun t260 => (if t260 = true then (some a0_0) else (some false))) = some r := h
 clear h
 obtain ⟨t260, A2, H⟩ := bi H
 by_cases c3 : t260 = true
 ·subst c3
  have H1 : (some a0_0) = some r := by rw [if_pos rfl] at H; exact H
  clear H
  have H := H1
  clear H1
  obtain rfl := Option.some.inj H
  go_enter Try.func160, Try.ntmps160
  go_wp2_with (first | ((with_reducible refine gate_dst (N := 1) rfl ?_); refine box_event ?hg (N := 1) ?hd (cs := #[.bool a0_0, .slice A0_1 l0_1.length c0_1]) (t := 116) ?hr ?_; (case hd => rfl); (case hg => rfl); (case hr => first | (go_simp; done) | (go_simp; rfl)); intro g6 hg w4 hbox hb; have bK6 := Aside0.mk (hbox); have bW6 := gx hg HB; have bE6 := gx hg HB; replace HB := bt HB hb; clear hb hbox hg; obtain ⟨hcz5_0, hcz5_1, hfz5_0, hfz5_1⟩ := cz2 bK6) | ((with_reducible refine gate_callee (f := 174) rfl ?_); refine gL 4 Try.func174 #[.agg #[.bool a0_0, .slice A0_1 l0_1.length c0_1]] ?_; (with_reducible refine (spec_NumOk.calls k a0_0 _ _ l0_1 true _ ?side1 ?side2 A2.out).mono ?_); (case side1 => repeat (first | exact (Kd.C_below HR0_1.out HB.out) | (with_reducible refine Kd.C_alloc ?_ _) | (with_reducible refine Kd.C_drewN ?_ _) | (with_reducible refine Kd.C_drew ?_))); (case side2 => exact HC0_1.out); rintro e w6 ⟨rfl, hb⟩; refine ⟨_, rfl, ?_⟩; replace bK6 := kb bK6 hb; replace HB := bt HB hb; (try clear hb); (try clear hb2); (try clear hk); (try clear hi); obtain ⟨hcz7_0, hcz7_1, hfz7_0, hfz7_1⟩ := cz2 bK6))
  go_ret
  exact fin HB
 replace c3 := Bool.eq_false_iff.mpr c3
 subst c3
 have H1 : (some false) = some r := by rw [if_neg (show ¬ (false = true) by decide)] at H; exact H
 clear H
 have H := H1
 clear H1
 obtain rfl := Option.some.inj H
 go_enter Try.func160, Try.ntmps160
 go_wp2_with (first | ((with_reducible refine gate_dst (N := 1) rfl ?_); refine box_event ?hg (N := 1) ?hd (cs := #[.bool a0_0, .slice A0_1 l0_1.length c0_1]) (t := 116) ?hr ?_; (case hd => rfl); (case hg => rfl); (case hr => first | (go_simp; done) | (go_simp; rfl)); intro g6 hg w8 hbox hb; have bK6 := Aside0.mk (hbox); have bW6 := gx hg HB; have bE6 := gx hg HB; replace HB := bt HB hb; clear hb hbox hg; obtain ⟨hcz9_0, hcz9_1, hfz9_0, hfz9_1⟩ := cz2 bK6) | ((with_reducible refine gate_callee (f := 174) rfl ?_); refine gL 4 Try.func174 #[.agg #[.bool a0_0, .slice A0_1 l0_1.length c0_1]] ?_; (with_reducible refine (spec_NumOk.calls k a0_0 _ _ l0_1 false _ ?side1 ?side2 A2.out).mono ?_); (case side1 => repeat (first | exact (Kd.C_below HR0_1.out HB.out) | (with_reducible refine Kd.C_alloc ?_ _) | (with_reducible refine Kd.C_drewN ?_ _) | (with_reducible refine Kd.C_drew ?_))); (case side2 => exact HC0_1.out); rintro e w10 ⟨rfl, hb⟩; refine ⟨_, rfl, ?_⟩; replace bK6 := kb bK6 hb; replace HB := bt HB hb; (try clear hb); (try clear hb2); (try clear hk); (try clear hi)))
 go_ret
 exact fin HB

end Go.Proofs.Ytndedincanmaeaa.Print
