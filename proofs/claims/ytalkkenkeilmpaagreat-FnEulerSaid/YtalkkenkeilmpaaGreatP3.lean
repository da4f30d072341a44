/- Do sides of three, four planes clash, by both programs. -/
import Derived.Test.YtalkkenkeilmpaaGreatP2
namespace Go.Proofs.YtalkkenkeilmpaaGreat.Q
open Go Go.RowKit Go.Proofs Go.Proofs.YtalkkenkeilmpaaGreat.Ev Go.Proofs.YtalkkenkeilmpaaGreat.G
set_option linter.unusedSimpArgs false
set_option linter.unusedVariables false

/-- the tests of signs and sums -/
def Up4 (x y z t d e f g : Int) : Prop := ((0 < x ∧ 0 < y ∧ 0 < z ∧ 0 < t) ∨ (x < 0 ∧ y < 0 ∧ z < 0 ∧ t < 0)) ∧ ab x * d + ab y * e + ab z * f + ab t * g ≤ 0
instance (x y z d e f : Int) : Decidable (Up3 x y z d e f) := by unfold Up3; infer_instance
instance (x y z t d e f g : Int) : Decidable (Up4 x y z t d e f g) := by unfold Up4; infer_instance
theorem sum_end {xs ds : List Int} {up dn : Bool} {s : Int} : Lv (fun k n => spec_l6Sum.l5 k n xs ds up dn s (xs.length : Int)) ((up, dn, s, ()), ()) := by
  refine Lv.step (g := fun k n => spec_l6Sum.s5 k (spec_l6Sum.l5 k n) xs ds up dn s (xs.length : Int)) ?_ (fun _ _ => rfl)
  exact .now fun k n => by simp [spec_l6Sum.s5]
theorem sum_step {xs ds : List Int} {up dn : Bool} {s i : Int} {v : spec_l6Sum.B5} (h0 : 0 ≤ i) (hi : i < (xs.length : Int)) (hd : i < (ds.length : Int)) (b : -9223372036854775807 ≤ rd xs i ∧ rd xs i ≤ 9223372036854775807)
    (h : Lv (fun k n => spec_l6Sum.l5 k n xs ds (up && decide (rd xs i > 0)) (dn && decide (rd xs i < 0)) (W (s + ab (rd xs i) * rd ds i)) (W (i + 1))) v) : Lv (fun k n => spec_l6Sum.l5 k n xs ds up dn s i) v := by
  refine Lv.step (g := fun k n => spec_l6Sum.s5 k (spec_l6Sum.l5 k n) xs ds up dn s i) ?_ (fun _ _ => rfl)
  refine h.congr fun k n => ?_
  simp only [spec_l6Sum.s5, decide_eq_true_eq, if_pos hi, if_pos h0, if_pos hd, l3Abs_f k b.1 b.2, Option.bind_some, W_add_r]
  cases up <;> cases dn <;> rfl
theorem l6Sum_of {xs ds : List Int} {up dn : Bool} {s : Int} (h : Lv (fun k n => spec_l6Sum.l5 k n xs ds true true 0 0) ((up, dn, s, ()), ())) : Ev (fun k => spec_l6Sum.f k xs ds) ((up || dn) && decide (s ≤ 0)) := by
  simp only [spec_l6Sum.f]
  refine h.ev.bind (.now fun k => ?_)
  cases up <;> cases dn <;> simp
theorem l6Sum3_ev {x y z d e f : Int} (hx : -1000000000000 ≤ x ∧ x ≤ 1000000000000) (hy : -1000000000000 ≤ y ∧ y ≤ 1000000000000) (hz : -1000000000000 ≤ z ∧ z ≤ 1000000000000) (hd : -500 ≤ d ∧ d ≤ 500) (he : -500 ≤ e ∧ e ≤ 500) (hf : -500 ≤ f ∧ f ≤ 500) :
    Ev (fun k => spec_l6Sum.f k [x, y, z] [d, e, f]) (decide (Up3 x y z d e f)) := by
  have A : ∀ {u v : Int}, -1000000000000 ≤ u ∧ u ≤ 1000000000000 → -500 ≤ v ∧ v ≤ 500 → -500000000000000 ≤ ab u * v ∧ ab u * v ≤ 500000000000000 := fun {u v} hu hv => mul_bd (X := 1000000000000) (Y := 500) (by simp only [ab]; omega) hv
  have m1 := A hx hd; have m2 := A hy he; have m3 := A hz hf
  have r0 : rd [x, y, z] 0 = x := rfl
  have r1 : rd [x, y, z] 1 = y := rfl
  have r2 : rd [x, y, z] 2 = z := rfl
  have s0 : rd [d, e, f] 0 = d := rfl
  have s1 : rd [d, e, f] 1 = e := rfl
  have s2 : rd [d, e, f] 2 = f := rfl
  have key : Lv (fun k n => spec_l6Sum.l5 k n [x, y, z] [d, e, f] true true 0 0) ((decide (0 < x ∧ 0 < y ∧ 0 < z), decide (x < 0 ∧ y < 0 ∧ z < 0), ab x * d + ab y * e + ab z * f, ()), ()) := by
    refine sum_step (by omega) (by simp) (by simp) (by rw [r0]; omega) ?_
    rw [show W (0 + 1) = 1 from W_id (by omega) (by omega)]
    refine sum_step (by omega) (by simp) (by simp) (by rw [r1]; omega) ?_
    rw [show W (1 + 1) = 2 from W_id (by omega) (by omega)]
    refine sum_step (by omega) (by simp) (by simp) (by rw [r2]; omega) ?_
    rw [show W (2 + 1) = (([x, y, z] : List Int).length : Int) from W_id (by omega) (by omega)]
    rw [r0, r1, r2, s0, s1, s2]
    simp only [W_add_l]
    rw [W_id (x := 0 + ab x * d + ab y * e + ab z * f) (by omega) (by omega), Int.zero_add]
    have b1 : (true && decide (x > 0) && decide (y > 0) && decide (z > 0)) = decide (0 < x ∧ 0 < y ∧ 0 < z) := by rw [Bool.eq_iff_iff]; simp [and_assoc]
    have b2 : (true && decide (x < 0) && decide (y < 0) && decide (z < 0)) = decide (x < 0 ∧ y < 0 ∧ z < 0) := by rw [Bool.eq_iff_iff]; simp [and_assoc]
    rw [b1, b2]
    exact sum_end
  have := l6Sum_of key
  rw [show decide (Up3 x y z d e f) = ((decide (0 < x ∧ 0 < y ∧ 0 < z) || decide (x < 0 ∧ y < 0 ∧ z < 0)) && decide (ab x * d + ab y * e + ab z * f ≤ 0)) from by rw [Bool.eq_iff_iff, decide_eq_true_iff]; unfold Up3; simp]
  exact this
theorem l6Sum4_ev {x y z t d e f g : Int} (hx : -1000000000000 ≤ x ∧ x ≤ 1000000000000) (hy : -1000000000000 ≤ y ∧ y ≤ 1000000000000) (hz : -1000000000000 ≤ z ∧ z ≤ 1000000000000) (ht : -1000000000000 ≤ t ∧ t ≤ 1000000000000)
    (hd : -500 ≤ d ∧ d ≤ 500) (he : -500 ≤ e ∧ e ≤ 500) (hf : -500 ≤ f ∧ f ≤ 500) (hg : -500 ≤ g ∧ g ≤ 500) :
    Ev (fun k => spec_l6Sum.f k [x, y, z, t] [d, e, f, g]) (decide (Up4 x y z t d e f g)) := by
  have A : ∀ {u v : Int}, -1000000000000 ≤ u ∧ u ≤ 1000000000000 → -500 ≤ v ∧ v ≤ 500 → -500000000000000 ≤ ab u * v ∧ ab u * v ≤ 500000000000000 := fun {u v} hu hv => mul_bd (X := 1000000000000) (Y := 500) (by simp only [ab]; omega) hv
  have m1 := A hx hd; have m2 := A hy he; have m3 := A hz hf; have m4 := A ht hg
  have r0 : rd [x, y, z, t] 0 = x := rfl
  have r1 : rd [x, y, z, t] 1 = y := rfl
  have r2 : rd [x, y, z, t] 2 = z := rfl
  have r3 : rd [x, y, z, t] 3 = t := rfl
  have s0 : rd [d, e, f, g] 0 = d := rfl
  have s1 : rd [d, e, f, g] 1 = e := rfl
  have s2 : rd [d, e, f, g] 2 = f := rfl
  have s3 : rd [d, e, f, g] 3 = g := rfl
  have key : Lv (fun k n => spec_l6Sum.l5 k n [x, y, z, t] [d, e, f, g] true true 0 0) ((decide (0 < x ∧ 0 < y ∧ 0 < z ∧ 0 < t), decide (x < 0 ∧ y < 0 ∧ z < 0 ∧ t < 0), ab x * d + ab y * e + ab z * f + ab t * g, ()), ()) := by
    refine sum_step (by omega) (by simp) (by simp) (by rw [r0]; omega) ?_
    rw [show W (0 + 1) = 1 from W_id (by omega) (by omega)]
    refine sum_step (by omega) (by simp) (by simp) (by rw [r1]; omega) ?_
    rw [show W (1 + 1) = 2 from W_id (by omega) (by omega)]
    refine sum_step (by omega) (by simp) (by simp) (by rw [r2]; omega) ?_
    rw [show W (2 + 1) = 3 from W_id (by omega) (by omega)]
    refine sum_step (by omega) (by simp) (by simp) (by rw [r3]; omega) ?_
    rw [show W (3 + 1) = (([x, y, z, t] : List Int).length : Int) from W_id (by omega) (by omega)]
    rw [r0, r1, r2, r3, s0, s1, s2, s3]
    simp only [W_add_l]
    rw [W_id (x := 0 + ab x * d + ab y * e + ab z * f + ab t * g) (by omega) (by omega), Int.zero_add]
    have b1 : (true && decide (x > 0) && decide (y > 0) && decide (z > 0) && decide (t > 0)) = decide (0 < x ∧ 0 < y ∧ 0 < z ∧ 0 < t) := by rw [Bool.eq_iff_iff]; simp [and_assoc]
    have b2 : (true && decide (x < 0) && decide (y < 0) && decide (z < 0) && decide (t < 0)) = decide (x < 0 ∧ y < 0 ∧ z < 0 ∧ t < 0) := by rw [Bool.eq_iff_iff]; simp [and_assoc]
    rw [b1, b2]
    exact sum_end
  have := l6Sum_of key
  rw [show decide (Up4 x y z t d e f g) = ((decide (0 < x ∧ 0 < y ∧ 0 < z ∧ 0 < t) || decide (x < 0 ∧ y < 0 ∧ z < 0 ∧ t < 0)) && decide (ab x * d + ab y * e + ab z * f + ab t * g ≤ 0)) from by rw [Bool.eq_iff_iff, decide_eq_true_iff]; unfold Up4; simp]
  exact this

def wfin : impl_weighs.B4 → Option Bool
  | .inl r3 => some r3.1.1
  | .inr x4 => some (decide ((W (x4.1.2.1 * x4.1.1)) ≤ 0))
def WV (ds : List Int) (one s : Int) (ws : List Int) (i : Int) (v : Bool) : Prop := Lv (fun k n => (impl_weighs.l4 k n ds one s ws (ws.length : Int) i).bind wfin) v
theorem weighs_of {ws ds : List Int} {v : Bool} (h : 0 < (ws.length : Int)) (hv : WV ds (sgn (rd ws 0)) 0 ws 0 v) : Ev (fun k => impl_weighs.f k ws ds) v := by
  simp only [impl_weighs.f, if_pos h, sign_f, Option.bind_some, Int.le_refl, if_true]
  exact hv.ev.congr fun k => by congr 1
theorem weighs_end {ws ds : List Int} {one s : Int} : WV ds one s ws (ws.length : Int) (decide (W (s * one) ≤ 0)) := by
  refine Lv.step (g := fun k n => (impl_weighs.s4 k (impl_weighs.l4 k n) ds one s ws (ws.length : Int) (ws.length : Int)).bind wfin) ?_ (fun _ _ => rfl)
  exact .now fun k n => by simp [impl_weighs.s4, wfin]
theorem weighs_step {ws ds : List Int} {one s i : Int} {v : Bool} (h0 : 0 ≤ i) (hi : i < (ws.length : Int)) (hd : i < (ds.length : Int)) (h1 : one ≠ 0)
    (h : WV ds one (W (s + rd ws i * rd ds i)) ws (W (i + 1)) v) : WV ds one s ws i (if sgn (rd ws i) = one then v else false) := by
  refine Lv.step (g := fun k n => (impl_weighs.s4 k (impl_weighs.l4 k n) ds one s ws (ws.length : Int) i).bind wfin) ?_ (fun _ _ => rfl)
  simp only [impl_weighs.s4, decide_eq_true_eq, if_pos hi, if_pos h0, if_pos hd, sign_f, Option.bind_some, eq_iff, if_neg h1, ne_iff, W_add_r]
  by_cases c : sgn (rd ws i) = one
  · rw [if_pos c]; simp only [c, ne_eq, not_true_eq_false, if_false]; exact h
  · rw [if_neg c]; simp only [c, ne_eq, not_false_eq_true, if_true]; exact .now fun _ _ => rfl
theorem weighs_zero {ws ds : List Int} {s i : Int} (h0 : 0 ≤ i) (hi : i < (ws.length : Int)) : WV ds 0 s ws i false := by
  refine Lv.step (g := fun k n => (impl_weighs.s4 k (impl_weighs.l4 k n) ds 0 s ws (ws.length : Int) i).bind wfin) ?_ (fun _ _ => rfl)
  exact .now fun k n => by simp [impl_weighs.s4, wfin, h0, hi]
theorem sgn_one {a : Int} : sgn a = 1 ↔ 0 < a := by unfold sgn; split <;> (try split) <;> omega
theorem sgn_neg {a : Int} : sgn a = -1 ↔ a < 0 := by unfold sgn; split <;> (try split) <;> omega
theorem sgn_nul {a : Int} : sgn a = 0 ↔ a = 0 := by unfold sgn; split <;> (try split) <;> omega
theorem weighs3_ev {x y z d e f : Int} (hx : -1000000000000 ≤ x ∧ x ≤ 1000000000000) (hy : -1000000000000 ≤ y ∧ y ≤ 1000000000000) (hz : -1000000000000 ≤ z ∧ z ≤ 1000000000000) (hd : -500 ≤ d ∧ d ≤ 500) (he : -500 ≤ e ∧ e ≤ 500) (hf : -500 ≤ f ∧ f ≤ 500) :
    Ev (fun k => impl_weighs.f k [x, y, z] [d, e, f]) (decide (Up3 x y z d e f)) := by
  have m1 := mul_bd hx hd; have m2 := mul_bd hy he; have m3 := mul_bd hz hf
  refine weighs_of (by simp) ?_
  show WV _ (sgn x) 0 _ 0 _
  by_cases c : x = 0
  · have e0 : sgn x = 0 := sgn_nul.mpr c
    rw [e0, show decide (Up3 x y z d e f) = false from by rw [decide_eq_false_iff_not]; unfold Up3; omega]
    exact weighs_zero (by omega) (by simp)
  have h1 : sgn x ≠ 0 := fun h => c (sgn_nul.mp h)
  have r0 : rd [x, y, z] 0 = x := rfl
  have r1 : rd [x, y, z] 1 = y := rfl
  have r2 : rd [x, y, z] 2 = z := rfl
  have s0 : rd [d, e, f] 0 = d := rfl
  have s1 : rd [d, e, f] 1 = e := rfl
  have s2 : rd [d, e, f] 2 = f := rfl
  have k3 := weighs_end (ws := [x, y, z]) (ds := [d, e, f]) (one := sgn x) (s := x * d + y * e + z * f)
  have k2 := weighs_step (ws := [x, y, z]) (ds := [d, e, f]) (one := sgn x) (s := x * d + y * e) (i := 2) (by omega) (by simp) (by simp) h1 (by rw [r2, s2, W_id (x := x * d + y * e + z * f) (by omega) (by omega), show W (2 + 1) = (([x, y, z] : List Int).length : Int) from W_id (by omega) (by omega)]; exact k3)
  have k1 := weighs_step (ws := [x, y, z]) (ds := [d, e, f]) (one := sgn x) (s := x * d) (i := 1) (by omega) (by simp) (by simp) h1 (by rw [r1, s1, W_id (x := x * d + y * e) (by omega) (by omega), show W (1 + 1) = 2 from W_id (by omega) (by omega)]; exact k2)
  have k0 := weighs_step (ws := [x, y, z]) (ds := [d, e, f]) (one := sgn x) (s := 0) (i := 0) (by omega) (by simp) (by simp) h1 (by rw [r0, s0, Int.zero_add, W_id (x := x * d) (by omega) (by omega), show W (0 + 1) = 1 from W_id (by omega) (by omega)]; exact k1)
  rw [r0, r1, r2, if_pos rfl] at k0
  have fin : (if sgn y = sgn x then if sgn z = sgn x then decide (W ((x * d + y * e + z * f) * sgn x) ≤ 0) else false else false) = decide (Up3 x y z d e f) := by
    by_cases px : 0 < x
    · rw [sgn_one.mpr px]
      simp only [sgn_one]
      by_cases py : 0 < y
      · by_cases pz : 0 < z
        · rw [if_pos py, if_pos pz, Int.mul_one, W_id (by omega) (by omega), Bool.eq_iff_iff, decide_eq_true_iff, decide_eq_true_iff]
          unfold Up3
          simp only [ab]
          rw [show (x.natAbs : Int) = x by omega, show (y.natAbs : Int) = y by omega, show (z.natAbs : Int) = z by omega]
          exact ⟨fun h => ⟨.inl ⟨px, py, pz⟩, h⟩, fun h => h.2⟩
        · rw [if_pos py, if_neg pz]; symm; rw [decide_eq_false_iff_not]; unfold Up3; omega
      · rw [if_neg py]; symm; rw [decide_eq_false_iff_not]; unfold Up3; omega
    · have nx : x < 0 := by omega
      rw [sgn_neg.mpr nx]
      simp only [sgn_neg]
      by_cases py : y < 0
      · by_cases pz : z < 0
        · rw [if_pos py, if_pos pz, Int.mul_neg, Int.mul_one, W_id (by omega) (by omega), Bool.eq_iff_iff, decide_eq_true_iff, decide_eq_true_iff]
          unfold Up3
          simp only [ab]
          rw [show (x.natAbs : Int) = -x by omega, show (y.natAbs : Int) = -y by omega, show (z.natAbs : Int) = -z by omega, Int.neg_mul, Int.neg_mul, Int.neg_mul]
          exact ⟨fun h => ⟨.inr ⟨nx, py, pz⟩, by omega⟩, fun h => by omega⟩
        · rw [if_pos py, if_neg pz]; symm; rw [decide_eq_false_iff_not]; unfold Up3; omega
      · rw [if_neg py]; symm; rw [decide_eq_false_iff_not]; unfold Up3; omega
  rw [← fin]
  exact k0
theorem weighs4_ev {x y z t d e f g : Int} (hx : -1000000000000 ≤ x ∧ x ≤ 1000000000000) (hy : -1000000000000 ≤ y ∧ y ≤ 1000000000000) (hz : -1000000000000 ≤ z ∧ z ≤ 1000000000000) (ht : -1000000000000 ≤ t ∧ t ≤ 1000000000000)
    (hd : -500 ≤ d ∧ d ≤ 500) (he : -500 ≤ e ∧ e ≤ 500) (hf : -500 ≤ f ∧ f ≤ 500) (hg : -500 ≤ g ∧ g ≤ 500) :
    Ev (fun k => impl_weighs.f k [x, y, z, t] [d, e, f, g]) (decide (Up4 x y z t d e f g)) := by
  have m1 := mul_bd hx hd; have m2 := mul_bd hy he; have m3 := mul_bd hz hf; have m4 := mul_bd ht hg
  refine weighs_of (by simp) ?_
  show WV _ (sgn x) 0 _ 0 _
  by_cases c : x = 0
  · have e0 : sgn x = 0 := sgn_nul.mpr c
    rw [e0, show decide (Up4 x y z t d e f g) = false from by rw [decide_eq_false_iff_not]; unfold Up4; omega]
    exact weighs_zero (by omega) (by simp)
  have h1 : sgn x ≠ 0 := fun h => c (sgn_nul.mp h)
  have r0 : rd [x, y, z, t] 0 = x := rfl
  have r1 : rd [x, y, z, t] 1 = y := rfl
  have r2 : rd [x, y, z, t] 2 = z := rfl
  have r3 : rd [x, y, z, t] 3 = t := rfl
  have s0 : rd [d, e, f, g] 0 = d := rfl
  have s1 : rd [d, e, f, g] 1 = e := rfl
  have s2 : rd [d, e, f, g] 2 = f := rfl
  have s3 : rd [d, e, f, g] 3 = g := rfl
  have k4 := weighs_end (ws := [x, y, z, t]) (ds := [d, e, f, g]) (one := sgn x) (s := x * d + y * e + z * f + t * g)
  have k3 := weighs_step (ws := [x, y, z, t]) (ds := [d, e, f, g]) (one := sgn x) (s := x * d + y * e + z * f) (i := 3) (by omega) (by simp) (by simp) h1 (by rw [r3, s3, W_id (x := x * d + y * e + z * f + t * g) (by omega) (by omega), show W (3 + 1) = (([x, y, z, t] : List Int).length : Int) from W_id (by omega) (by omega)]; exact k4)
  have k2 := weighs_step (ws := [x, y, z, t]) (ds := [d, e, f, g]) (one := sgn x) (s := x * d + y * e) (i := 2) (by omega) (by simp) (by simp) h1 (by rw [r2, s2, W_id (x := x * d + y * e + z * f) (by omega) (by omega), show W (2 + 1) = 3 from W_id (by omega) (by omega)]; exact k3)
  have k1 := weighs_step (ws := [x, y, z, t]) (ds := [d, e, f, g]) (one := sgn x) (s := x * d) (i := 1) (by omega) (by simp) (by simp) h1 (by rw [r1, s1, W_id (x := x * d + y * e) (by omega) (by omega), show W (1 + 1) = 2 from W_id (by omega) (by omega)]; exact k2)
  have k0 := weighs_step (ws := [x, y, z, t]) (ds := [d, e, f, g]) (one := sgn x) (s := 0) (i := 0) (by omega) (by simp) (by simp) h1 (by rw [r0, s0, Int.zero_add, W_id (x := x * d) (by omega) (by omega), show W (0 + 1) = 1 from W_id (by omega) (by omega)]; exact k1)
  rw [r0, r1, r2, r3, if_pos rfl] at k0
  have fin : (if sgn y = sgn x then if sgn z = sgn x then if sgn t = sgn x then decide (W ((x * d + y * e + z * f + t * g) * sgn x) ≤ 0) else false else false else false) = decide (Up4 x y z t d e f g) := by
    by_cases px : 0 < x
    · rw [sgn_one.mpr px]
      simp only [sgn_one]
      by_cases py : 0 < y
      · by_cases pz : 0 < z
        · by_cases pt : 0 < t
          · rw [if_pos py, if_pos pz, if_pos pt, Int.mul_one, W_id (by omega) (by omega), Bool.eq_iff_iff, decide_eq_true_iff, decide_eq_true_iff]
            unfold Up4
            simp only [ab]
            rw [show (x.natAbs : Int) = x by omega, show (y.natAbs : Int) = y by omega, show (z.natAbs : Int) = z by omega, show (t.natAbs : Int) = t by omega]
            exact ⟨fun h => ⟨.inl ⟨px, py, pz, pt⟩, h⟩, fun h => h.2⟩
          · rw [if_pos py, if_pos pz, if_neg pt]; symm; rw [decide_eq_false_iff_not]; unfold Up4; omega
        · rw [if_pos py, if_neg pz]; symm; rw [decide_eq_false_iff_not]; unfold Up4; omega
      · rw [if_neg py]; symm; rw [decide_eq_false_iff_not]; unfold Up4; omega
    · have nx : x < 0 := by omega
      rw [sgn_neg.mpr nx]
      simp only [sgn_neg]
      by_cases py : y < 0
      · by_cases pz : z < 0
        · by_cases pt : t < 0
          · rw [if_pos py, if_pos pz, if_pos pt, Int.mul_neg, Int.mul_one, W_id (by omega) (by omega), Bool.eq_iff_iff, decide_eq_true_iff, decide_eq_true_iff]
            unfold Up4
            simp only [ab]
            rw [show (x.natAbs : Int) = -x by omega, show (y.natAbs : Int) = -y by omega, show (z.natAbs : Int) = -z by omega, show (t.natAbs : Int) = -t by omega, Int.neg_mul, Int.neg_mul, Int.neg_mul, Int.neg_mul]
            exact ⟨fun h => ⟨.inr ⟨nx, py, pz, pt⟩, by omega⟩, fun h => by omega⟩
          · rw [if_pos py, if_pos pz, if_neg pt]; symm; rw [decide_eq_false_iff_not]; unfold Up4; omega
        · rw [if_pos py, if_neg pz]; symm; rw [decide_eq_false_iff_not]; unfold Up4; omega
      · rw [if_neg py]; symm; rw [decide_eq_false_iff_not]; unfold Up4; omega
  rw [← fin]
  exact k0

/-- three sides -/
def c3 (p q r : S4) : Bool := decide (dt (v3 p) (v3 q) (v3 r) = 0 ∧ Up3 (ip (cx (v3 q) (v3 r)) (cx (v3 p) (v3 q))) (ip (cx (v3 r) (v3 p)) (cx (v3 p) (v3 q))) (ip (cx (v3 p) (v3 q)) (cx (v3 p) (v3 q))) p.d q.d r.d)
theorem clash3_ev {p q r : S4} (hp : Bd4 p) (hq : Bd4 q) (hr : Bd4 r) : Ev (fun k => impl_clash3.f k p q r) (c3 p q r) := by
  have hw := cx_bd hp.1 hq.1; have hx := cx_bd hq.1 hr.1; have hy := cx_bd hr.1 hp.1
  have i1 := ip_bd hx hw; have i2 := ip_bd hy hw; have i3 := ip_bd hw hw
  have key := weighs3_ev (x := ip (cx (v3 q) (v3 r)) (cx (v3 p) (v3 q))) (y := ip (cx (v3 r) (v3 p)) (cx (v3 p) (v3 q))) (z := ip (cx (v3 p) (v3 q)) (cx (v3 p) (v3 q))) (by omega) (by omega) (by omega) hp.2 hq.2 hr.2
  have g1 := fun k => dot_f k (u := cx (v3 q) (v3 r)) (v := cx (v3 p) (v3 q)) (by omega)
  have g2 := fun k => dot_f k (u := cx (v3 r) (v3 p)) (v := cx (v3 p) (v3 q)) (by omega)
  have g3 := fun k => dot_f k (u := cx (v3 p) (v3 q)) (v := cx (v3 p) (v3 q)) (by omega)
  simp only [impl_clash3.f, normal_f, Option.bind_some, det_f _ hp.1 hq.1 hr.1, crossOf_f _ hp.1 hq.1, crossOf_f _ hq.1 hr.1, crossOf_f _ hr.1 hp.1, g1, g2, g3, ne_iff, c3]
  by_cases h : dt (v3 p) (v3 q) (v3 r) = 0
  · simp only [h, ne_eq, not_true_eq_false, if_false, true_and]
    exact key.one
  · simp only [h, ne_eq, not_false_eq_true, if_true, false_and, decide_false]
    exact .now fun _ => rfl
theorem c3_end {p q r : S4} (h : dt (v3 p) (v3 q) (v3 r) = 0) {i x y z : Int} (hi : (i = 0 ∧ x = (cx (v3 q) (v3 r)).x ∧ y = (cx (v3 r) (v3 p)).x ∧ z = (cx (v3 p) (v3 q)).x) ∨ (i = 1 ∧ x = (cx (v3 q) (v3 r)).y ∧ y = (cx (v3 r) (v3 p)).y ∧ z = (cx (v3 p) (v3 q)).y) ∨ (i = 2 ∧ x = (cx (v3 q) (v3 r)).z ∧ y = (cx (v3 r) (v3 p)).z ∧ z = (cx (v3 p) (v3 q)).z))
    (ha : x ≠ 0 ∨ y ≠ 0 ∨ z ≠ 0) : c3 p q r = decide (Up3 x y z p.d q.d r.d) := by
  obtain ⟨g1, g2⟩ := cx_cx h
  obtain ⟨a1, a2, a3⟩ := along g1
  obtain ⟨b1, b2, b3⟩ := along g2
  have nn := ip_nn (cx (v3 p) (v3 q))
  have zz : ip (cx (v3 p) (v3 q)) (cx (v3 p) (v3 q)) = 0 → z = 0 := fun e => by
    obtain ⟨z1, z2, z3⟩ := ip_zero e
    rcases hi with ⟨_, _, _, e⟩ | ⟨_, _, _, e⟩ | ⟨_, _, _, e⟩ <;> rw [e] <;> assumption
  unfold c3
  rw [decide_eq_decide]
  have key : Up3 (ip (cx (v3 q) (v3 r)) (cx (v3 p) (v3 q))) (ip (cx (v3 r) (v3 p)) (cx (v3 p) (v3 q))) (ip (cx (v3 p) (v3 q)) (cx (v3 p) (v3 q))) p.d q.d r.d ↔ Up3 x y z p.d q.d r.d := by
    refine core3 ?_ ?_ nn zz ha
    · rcases hi with ⟨_, e1, _, e3⟩ | ⟨_, e1, _, e3⟩ | ⟨_, e1, _, e3⟩ <;> rw [e1, e3] <;> assumption
    · rcases hi with ⟨_, _, e2, e3⟩ | ⟨_, _, e2, e3⟩ | ⟨_, _, e2, e3⟩ <;> rw [e2, e3] <;> assumption
  exact ⟨fun g => key.mp g.2, fun g => ⟨h, key.mpr g⟩⟩
theorem l6Clash3_ev {p q r : S4} (hp : Bd4 p) (hq : Bd4 q) (hr : Bd4 r) : Ev (fun k => spec_l6Clash3.f k p q r) (c3 p q r) := by
  have hz := cx_bd hp.1 hq.1; have hx := cx_bd hq.1 hr.1; have hy := cx_bd hr.1 hp.1
  simp only [spec_l6Clash3.f, l4Det3_f _ hp.1 hq.1 hr.1, l4Cross_f _ hp.1 hq.1, l4Cross_f _ hq.1 hr.1, l4Cross_f _ hr.1 hp.1, Option.bind_some, ne_iff]
  by_cases h : dt (v3 p) (v3 q) (v3 r) = 0
  · simp only [h, ne_eq, not_true_eq_false, if_false]
    have en := @c3_end p q r h
    have nul : (cx (v3 p) (v3 q)).x = 0 → (cx (v3 p) (v3 q)).y = 0 → (cx (v3 p) (v3 q)).z = 0 → c3 p q r = false := fun z1 z2 z3 => by
      unfold c3
      rw [decide_eq_false_iff_not]
      rintro ⟨_, g, _⟩
      have : ip (cx (v3 p) (v3 q)) (cx (v3 p) (v3 q)) = 0 := by simp only [ip, z1, z2, z3]; rfl
      omega
    generalize cx (v3 q) (v3 r) = x at *
    generalize cx (v3 r) (v3 p) = y at *
    generalize cx (v3 p) (v3 q) = z at *
    generalize c3 p q r = R at *
    have sum : ∀ {a b c : Int}, -500000 ≤ a ∧ a ≤ 500000 → -500000 ≤ b ∧ b ≤ 500000 → -500000 ≤ c ∧ c ≤ 500000 → R = decide (Up3 a b c p.d q.d r.d) → Lv (fun k (n : Nat) => (spec_l6Sum.f k [a, b, c] [p.d, q.d, r.d]).bind fun t => (some (.inl ((t, ()), ())) : Option spec_l6Clash3.B7)) (.inl ((R, ()), ())) := fun {a b c} ha hb hc e => by
      rw [e]; exact (l6Sum3_ev (by omega) (by omega) (by omega) hp.2 hq.2 hr.2).one.lv
    have L : Lv (fun k n => (spec_l6Clash3.l7 k n 0 p q r x y z).bind fun | .inl r8 => some r8.1.1 | .inr x9 => some false) R := by
      have go : ∀ (i : Int) (a b c : Int), 0 ≤ i → i < 3 → sel [x.x, x.y, x.z] i = a → sel [y.x, y.y, y.z] i = b → sel [z.x, z.y, z.z] i = c → -500000 ≤ a ∧ a ≤ 500000 → -500000 ≤ b ∧ b ≤ 500000 → -500000 ≤ c ∧ c ≤ 500000 → ((a ≠ 0 ∨ b ≠ 0 ∨ c ≠ 0) → R = decide (Up3 a b c p.d q.d r.d)) →
          ((a = 0 ∧ b = 0 ∧ c = 0) → Lv (fun k n => (spec_l6Clash3.l7 k n (W (i + 1)) p q r x y z).bind fun | .inl r8 => some r8.1.1 | .inr x9 => some false) R) → Lv (fun k n => (spec_l6Clash3.l7 k n i p q r x y z).bind fun | .inl r8 => some r8.1.1 | .inr x9 => some false) R := by
        intro i a b c h0 h3 ea eb ec ba bb bc hR hn
        refine Lv.step (g := fun k n => (spec_l6Clash3.s7 k (spec_l6Clash3.l7 k n) i p q r x y z).bind fun | .inl r8 => some r8.1.1 | .inr x9 => some false) ?_ (fun _ _ => rfl)
        simp only [spec_l6Clash3.s7, decide_eq_true_eq, if_pos h0, if_pos h3, ea, eb, ec, ne_iff]
        have fin : R = decide (Up3 a b c p.d q.d r.d) → Lv (fun k (n : Nat) => ((spec_l6Sum.f k [a, b, c] [p.d, q.d, r.d]).bind fun t => (some (.inl ((t, ()), ())) : Option spec_l6Clash3.B7)).bind fun | .inl r8 => some r8.1.1 | .inr x9 => some false) R := fun e => by
          obtain ⟨K, hK⟩ := sum ba bb bc e
          exact ⟨K, fun k n hk hn => by have := hK k n hk hn; simp only at this ⊢; rw [this]; rfl⟩
        by_cases ca : a = 0
        · subst ca
          by_cases cb : b = 0
          · subst cb
            by_cases cc : c = 0
            · subst cc; simp only [ne_eq, not_true_eq_false, if_false]; exact hn ⟨rfl, rfl, rfl⟩
            · simp only [cc, ne_eq, not_true_eq_false, not_false_eq_true, if_false, if_true]; exact fin (hR (by omega))
          · simp only [cb, ne_eq, not_true_eq_false, not_false_eq_true, if_false, if_true]; exact fin (hR (by omega))
        · simp only [ca, ne_eq, not_false_eq_true, if_true]; exact fin (hR (by omega))
      refine go 0 x.x y.x z.x (by omega) (by omega) rfl rfl rfl hx.1 hy.1 hz.1 (en (.inl ⟨rfl, rfl, rfl, rfl⟩)) fun n0 => ?_
      rw [show W (0 + 1) = 1 from W_1]
      refine go 1 x.y y.y z.y (by omega) (by omega) rfl rfl rfl hx.2.1 hy.2.1 hz.2.1 (en (.inr (.inl ⟨rfl, rfl, rfl, rfl⟩))) fun n1 => ?_
      rw [show W (1 + 1) = 2 from W_2]
      refine go 2 x.z y.z z.z (by omega) (by omega) rfl rfl rfl hx.2.2 hy.2.2 hz.2.2 (en (.inr (.inr ⟨rfl, rfl, rfl, rfl⟩))) fun n2 => ?_
      rw [show W (2 + 1) = 3 from W_3, nul n0.2.2 n1.2.2 n2.2.2]
      refine Lv.step (g := fun k n => (spec_l6Clash3.s7 k (spec_l6Clash3.l7 k n) 3 p q r x y z).bind fun | .inl r8 => some r8.1.1 | .inr x9 => some false) ?_ (fun _ _ => rfl)
      exact .now fun k n => by simp [spec_l6Clash3.s7]
    exact L.ev.congr fun k => by congr 1
  · simp only [h, ne_eq, not_false_eq_true, if_true]
    refine .now fun k => ?_
    congr 1; symm; simp only [c3]; rw [decide_eq_false_iff_not]; exact fun g => h g.1
/-- four sides -/
def c4 (p q r s : S4) : Bool := decide (Up4 (dt (v3 q) (v3 r) (v3 s)) (-dt (v3 p) (v3 r) (v3 s)) (dt (v3 p) (v3 q) (v3 s)) (-dt (v3 p) (v3 q) (v3 r)) p.d q.d r.d s.d)
theorem W_neg {x : Int} (h : -9223372036854775807 ≤ x ∧ x ≤ 9223372036854775807) : W (0 - x) = -x := by rw [W_id (by omega) (by omega)]; omega
theorem clash4_ev {p q r s : S4} (hp : Bd4 p) (hq : Bd4 q) (hr : Bd4 r) (hs : Bd4 s) : Ev (fun k => impl_clash4.f k p q r s) (c4 p q r s) := by
  have b1 := dt_bd hq.1 hr.1 hs.1; have b2 := dt_bd hp.1 hr.1 hs.1; have b3 := dt_bd hp.1 hq.1 hs.1; have b4 := dt_bd hp.1 hq.1 hr.1
  have key := weighs4_ev (x := dt (v3 q) (v3 r) (v3 s)) (y := -dt (v3 p) (v3 r) (v3 s)) (z := dt (v3 p) (v3 q) (v3 s)) (t := -dt (v3 p) (v3 q) (v3 r)) (by omega) (by omega) (by omega) (by omega) hp.2 hq.2 hr.2 hs.2
  simp only [impl_clash4.f, det3_f _ hq.1 hr.1 hs.1, det3_f _ hp.1 hr.1 hs.1, det3_f _ hp.1 hq.1 hs.1, det3_f _ hp.1 hq.1 hr.1, Option.bind_some]
  rw [W_neg (x := dt (v3 p) (v3 r) (v3 s)) (by omega), W_neg (x := dt (v3 p) (v3 q) (v3 r)) (by omega)]
  exact key.one
theorem l6Clash4_ev {p q r s : S4} (hp : Bd4 p) (hq : Bd4 q) (hr : Bd4 r) (hs : Bd4 s) : Ev (fun k => spec_l6Clash4.f k p q r s) (c4 p q r s) := by
  have b1 := dt_bd hq.1 hr.1 hs.1; have b2 := dt_bd hp.1 hr.1 hs.1; have b3 := dt_bd hp.1 hq.1 hs.1; have b4 := dt_bd hp.1 hq.1 hr.1
  have key := l6Sum4_ev (x := dt (v3 q) (v3 r) (v3 s)) (y := -dt (v3 p) (v3 r) (v3 s)) (z := dt (v3 p) (v3 q) (v3 s)) (t := -dt (v3 p) (v3 q) (v3 r)) (by omega) (by omega) (by omega) (by omega) hp.2 hq.2 hr.2 hs.2
  simp only [spec_l6Clash4.f, l4Det3_f _ hq.1 hr.1 hs.1, l4Det3_f _ hp.1 hr.1 hs.1, l4Det3_f _ hp.1 hq.1 hs.1, l4Det3_f _ hp.1 hq.1 hr.1, Option.bind_some]
  rw [W_neg (x := dt (v3 p) (v3 r) (v3 s)) (by omega), W_neg (x := dt (v3 p) (v3 q) (v3 r)) (by omega)]
  exact key.one

/-- some place from i on, d places -/
def anyF (f : Nat → Bool) : Nat → Nat → Bool
  | 0, _ => false
  | d + 1, i => f i || anyF f d (i + 1)
theorem anyF_iff {f : Nat → Bool} : ∀ {d i : Nat}, anyF f d i = true ↔ ∃ m, i ≤ m ∧ m < i + d ∧ f m = true
  | 0, i => by simp only [anyF]; constructor <;> (intro h; first | (obtain ⟨m, h1, h2, _⟩ := h; omega) | cases h)
  | d + 1, i => by
    simp only [anyF, Bool.or_eq_true, anyF_iff (d := d)]
    constructor
    · rintro (h | ⟨m, h1, h2, h3⟩)
      · exact ⟨i, by omega, by omega, h⟩
      · exact ⟨m, by omega, by omega, h3⟩
    · rintro ⟨m, h1, h2, h3⟩
      by_cases e : m = i
      · exact .inl (e ▸ h3)
      · exact .inr ⟨m, by omega, by omega, h3⟩
end Go.Proofs.YtalkkenkeilmpaaGreat.Q
