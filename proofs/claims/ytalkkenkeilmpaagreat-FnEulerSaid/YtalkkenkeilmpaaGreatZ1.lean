/- Picked out of other texts. -/
import Derived.Test.YtalkkenkeilmpaaGreatP9
import Derived.Test.YtalkkenkeilmpaaGreatN3
import Derived.Test.YtalkkenkeilmpaaGreatX0
import Derived.Test.YtalkkenkeilmpaaGreatF2
namespace Go.Proofs.YtalkkenkeilmpaaGreat.Q
open Go Go.RowKit Go.Proofs Go.Proofs.YtalkkenkeilmpaaGreat.Ev Go.Proofs.YtalkkenkeilmpaaGreat.G
set_option linter.unusedSimpArgs false
set_option linter.unusedVariables false

set_option linter.unusedSimpArgs false
set_option linter.unusedVariables false
def flp (p : S4) : S4 := ⟨-p.a, -p.b, -p.c, -p.d⟩
theorem l3Flip_f (k : Nat) {p : S4} (h : Bd4 p) : spec_l3Flip.f k p = some (flp p) := by
  obtain ⟨⟨h1, h2, h3⟩, h4⟩ := h
  simp only [v3] at h1 h2 h3
  simp only [spec_l3Flip.f, flp]
  rw [W_neg (by omega), W_neg (by omega), W_neg (by omega), W_neg (by omega)]
theorem flip_f (k : Nat) {p : S4} (h : Bd4 p) : impl_flip.f k p = some (flp p) := l3Flip_f k h
theorem flp_ok {p : S4} (h : okp p = true) : okp (flp p) = true := by
  rw [okp_iff] at h ⊢
  obtain ⟨h1, h2, h3, h4, h5, h6⟩ := h
  simp only [PlOk, flp, Int.natAbs_neg]
  exact ⟨by omega, by omega, by omega, by omega, by omega, h6⟩
set_option linter.unusedSimpArgs false
set_option linter.unusedVariables false
abbrev Cur := List Int × Int × Int × Unit
def SI (s : Cur) : Prop := 0 ≤ s.2.1 ∧ s.1.length ≤ 1099511627776
theorem andW_255 (x : Int) : 0 ≤ andW x 255 ∧ andW x 255 ≤ 255 := by
  unfold andW
  have h : (BitVec.ofInt (IntKind.bits .i64) x &&& BitVec.ofInt (IntKind.bits .i64) 255).toNat ≤ 255 := by
    rw [BitVec.toNat_and]
    exact Nat.le_trans Nat.and_le_right (by decide)
  generalize (BitVec.ofInt (IntKind.bits .i64) x &&& BitVec.ofInt (IntKind.bits .i64) 255).toNat = z at h
  have e : IntKind.wrap .i64 (z : Int) = (z : Int) := W_id (x := (z : Int)) (by omega) (by omega)
  rw [e]; omega
theorem l1Byte_ex {s : Cur} (h : SI s) : Ex (fun k => spec_l1Byte.f k s) (fun b => (0 ≤ b.1 ∧ b.1 ≤ 255) ∧ SI b.2) := by
  obtain ⟨h0, h1⟩ := h
  unfold spec_l1Byte.f
  simp only [decide_eq_true_eq]
  by_cases c : s.2.1 < (s.1.length : Int)
  · simp only [if_pos c, if_pos h0]
    refine Ex.now ⟨andW_255 _, ?_, h1⟩
    show 0 ≤ W (s.2.1 + 1)
    rw [W_id (by omega) (by omega)]; omega
  · simp only [if_neg c]
    exact Ex.now ⟨andW_255 _, h0, h1⟩
theorem tmod_bd {a b : Int} (ha : 0 ≤ a) (hb : 0 < b) : 0 ≤ a.tmod b ∧ a.tmod b < b := by
  rw [tmod_e ha]; exact ⟨Int.emod_nonneg _ (by omega), Int.emod_lt_of_pos _ hb⟩
theorem l1Below_ex {s : Cur} (h : SI s) (n : Int) : Ex (fun k => spec_l1Below.f k s n) (fun b => (0 ≤ b.1 ∧ (0 < n → b.1 < n) ∧ (n ≤ 0 → b.1 = 0)) ∧ SI b.2) := by
  unfold spec_l1Below.f
  simp only [decide_eq_true_eq]
  by_cases c : n ≤ 0
  · simp only [if_pos c]
    exact Ex.now ⟨⟨Int.le_refl _, fun h => by omega, fun _ => rfl⟩, h⟩
  · have hn : ¬ n = 0 := by omega
    simp only [if_neg c]
    by_cases c2 : n ≤ 256
    · simp only [if_pos c2, if_neg hn]
      refine Ex.bind (l1Byte_ex h) fun v hv => Ex.now ?_
      have := tmod_bd hv.1.1 (show 0 < n by omega)
      exact ⟨⟨this.1, fun _ => this.2, fun h => by omega⟩, hv.2⟩
    · simp only [if_neg c2, if_neg hn]
      refine Ex.bind (l1Byte_ex h) fun v hv => ?_
      refine Ex.bind (l1Byte_ex hv.2) fun u hu => ?_
      refine Ex.bind (l1Byte_ex hu.2) fun t ht => Ex.now ?_
      have e : 0 ≤ W ((W ((W (v.1 * 65536)) + (W (u.1 * 256)))) + t.1) := by
        obtain ⟨⟨a1, a2⟩, _⟩ := hv
        obtain ⟨⟨b1, b2⟩, _⟩ := hu
        obtain ⟨⟨c1, c2⟩, _⟩ := ht
        rw [W_id (x := v.1 * 65536) (by omega) (by omega), W_id (x := u.1 * 256) (by omega) (by omega), W_id (x := v.1 * 65536 + u.1 * 256) (by omega) (by omega), W_id (by omega) (by omega)]; omega
      have := tmod_bd e (show 0 < n by omega)
      exact ⟨⟨this.1, fun _ => this.2, fun h => by omega⟩, ht.2⟩
theorem l1Once_ex {s : Cur} (h : SI s) (n : Int) : Ex (fun k => spec_l1Once.f k s n) (fun b => SI b.2) := by
  unfold spec_l1Once.f
  exact Ex.bind (l1Below_ex h n) fun v hv => Ex.now hv.2
theorem l1Int_ex {s : Cur} (h : SI s) {l : List Int} (hl : 0 < l.length) : Ex (fun k => spec_l1Int.f k s l) (fun b => b.1 ∈ l ∧ SI b.2) := by
  unfold spec_l1Int.f
  refine Ex.bind (l1Below_ex h _) fun v hv => ?_
  obtain ⟨⟨h0, h1, _⟩, h2⟩ := hv
  have h1 := h1 (by omega)
  simp only [if_pos h0, if_pos h1]
  refine Ex.now ⟨?_, h2⟩
  obtain ⟨m, hm⟩ : ∃ m : Nat, v.1 = (m : Int) := ⟨v.1.toNat, by omega⟩
  show rd l v.1 ∈ l
  rw [hm, rd_get (by omega)]
  exact List.getElem_mem _
theorem l1New_ex {a : List Int} (h : a.length ≤ 1099511627776) : Ex (fun k => spec_l1New.f k a) (fun b => SI b) := by
  have loop : ∀ (d i : Nat) (x3 : Int), 4000 - i = d → Lx (fun k n => spec_l1New.l3 k n a x3 (i : Int)) (fun b => b.1.1 = a) := by
    intro d
    induction d with
    | zero =>
      intro i x3 hd
      refine Lx.step (g := fun k n => spec_l1New.s3 k (spec_l1New.l3 k n) a x3 (i : Int)) (Lx.now (v := ((a, x3, ()), ())) (fun k n => ?_) rfl) (fun _ _ => rfl)
      simp only [spec_l1New.s3, decide_eq_true_eq]
      by_cases c : (i : Int) < (a.length : Int)
      · rw [if_pos c, if_neg (by omega)]
      · rw [if_neg c]
    | succ d ih =>
      intro i x3 hd
      refine Lx.step (g := fun k n => spec_l1New.s3 k (spec_l1New.l3 k n) a x3 (i : Int)) ?_ (fun _ _ => rfl)
      by_cases c : (i : Int) < (a.length : Int)
      · refine (ih (i + 1) (andW (W ((W ((W (x3 * 137)) + (W (rd a (i : Int))))) + 11)) 1073741823) (by omega)).congr fun k n => ?_
        simp only [spec_l1New.s3, decide_eq_true_eq]
        rw [if_pos c, if_pos (by omega), if_pos (by omega), if_pos c, W_id (x := (i : Int) + 1) (by omega) (by omega)]
        rfl
      · refine Lx.now (v := ((a, x3, ()), ())) (fun k n => ?_) rfl
        simp only [spec_l1New.s3, decide_eq_true_eq]
        rw [if_neg c]
  unfold spec_l1New.f
  refine Ex.bind (loop 4000 0 (W (142142 + (a.length : Int))) rfl).ex fun v hv => Ex.now ?_
  exact ⟨Int.le_refl _, by show v.1.1.length ≤ _; rw [hv]; exact h⟩
theorem l3Coef_ex {s : Cur} (h : SI s) : Ex (fun k => spec_l3Coef.f k s) (fun b => (-5 ≤ b.1 ∧ b.1 ≤ 5) ∧ SI b.2) := by
  unfold spec_l3Coef.f
  refine Ex.bind (l1Below_ex h 11) fun v hv => ?_
  obtain ⟨⟨h0, h1, _⟩, h2⟩ := hv
  have h1 := h1 (by omega)
  refine Ex.bind (l1Int_ex h2 (by simp)) fun u hu => Ex.now ⟨?_, hu.2⟩
  have hw : W (v.1 - 5) = v.1 - 5 := W_id (by omega) (by omega)
  have := hu.1
  simp only [hw, List.mem_cons, List.not_mem_nil, or_false] at this
  show -5 ≤ u.1 ∧ u.1 ≤ 5
  omega
theorem pv_abs (x : Int) (G : Nat) : (pv x G).natAbs = x.natAbs / G := by
  unfold pv; generalize x.natAbs / G = z; split <;> omega
theorem g4_dvd (a b c d : Int) : (g4 a b c d ∣ a.natAbs ∧ g4 a b c d ∣ b.natAbs) ∧ g4 a b c d ∣ c.natAbs ∧ g4 a b c d ∣ d.natAbs := by
  have k1 : g4 a b c d ∣ Nat.gcd (Nat.gcd (Nat.gcd 0 a.natAbs) b.natAbs) c.natAbs := Nat.gcd_dvd_left _ _
  have k2 := Nat.dvd_trans k1 (Nat.gcd_dvd_left _ _)
  exact ⟨⟨Nat.dvd_trans (Nat.dvd_trans k2 (Nat.gcd_dvd_left _ _)) (Nat.gcd_dvd_right _ _), Nat.dvd_trans k2 (Nat.gcd_dvd_right _ _)⟩, Nat.dvd_trans k1 (Nat.gcd_dvd_right _ _), Nat.gcd_dvd_right _ _⟩
theorem g4_eq (a b c d : Int) : g4 a b c d = Nat.gcd (Nat.gcd a.natAbs b.natAbs) (Nat.gcd c.natAbs d.natAbs) := by
  unfold g4
  rw [Nat.gcd_zero_left, ← Nat.gcd_assoc (Nat.gcd a.natAbs b.natAbs)]
theorem g4_pos {a b c d : Int} (hz : ¬(a = 0 ∧ b = 0 ∧ c = 0)) : 0 < g4 a b c d := by
  refine Nat.pos_of_ne_zero (fun e => hz ?_)
  have e1 := Nat.eq_zero_of_gcd_eq_zero_left e
  have e2 := Nat.eq_zero_of_gcd_eq_zero_left e1
  have e3 := Nat.eq_zero_of_gcd_eq_zero_left e2
  have f1 := Nat.eq_zero_of_gcd_eq_zero_right e1
  have f2 := Nat.eq_zero_of_gcd_eq_zero_right e2
  have f3 := Nat.eq_zero_of_gcd_eq_zero_right e3
  omega
theorem primV_ok {a b c d : Int} (hz : ¬(a = 0 ∧ b = 0 ∧ c = 0)) (h : (primV a b c d (g4 a b c d)).2.1 = 0) : okp (primV a b c d (g4 a b c d)).1 = true := by
  unfold primV at h ⊢
  split at h
  · rename_i hc
    rw [if_pos hc, okp_iff]
    have hp := g4_pos hz (d := d)
    obtain ⟨⟨da, db⟩, dc, dd⟩ := g4_dvd a b c d
    have hg := g4_eq a b c d
    obtain ⟨i1, i2, i3, i4⟩ := hc
    have key : Nat.gcd (Nat.gcd (a.natAbs / g4 a b c d) (b.natAbs / g4 a b c d)) (Nat.gcd (c.natAbs / g4 a b c d) (d.natAbs / g4 a b c d)) = 1 := by
      rw [Nat.gcd_div da db, Nat.gcd_div dc dd, Nat.gcd_div (Nat.dvd_gcd da db) (Nat.dvd_gcd dc dd), ← hg, Nat.div_self hp]
    refine ⟨i1, i2, i3, i4, ?_, ?_⟩
    · show pv a (g4 a b c d) ≠ 0 ∨ pv b (g4 a b c d) ≠ 0 ∨ pv c (g4 a b c d) ≠ 0
      have nz : ∀ x : Int, g4 a b c d ∣ x.natAbs → x ≠ 0 → pv x (g4 a b c d) ≠ 0 := fun x hx h0 e => by
        have h1 := pv_abs x (g4 a b c d)
        rw [e] at h1
        have h2 := Nat.div_mul_cancel hx
        rw [← h1] at h2
        simp at h2; omega
      by_cases ha : a = 0
      · by_cases hb : b = 0
        · exact .inr (.inr (nz c dc fun h => hz ⟨ha, hb, h⟩))
        · exact .inr (.inl (nz b db hb))
      · exact .inl (nz a da ha)
    · simp only [pv_abs]; exact key
  · cases h
def sm (x : Int) : Prop := x.natAbs < 1000000000000
theorem Primitive_ex {a b c d : Int} (ha : sm a) (hb : sm b) (hc : sm c) (hd : sm d) : Ex (fun k => spec_Primitive.f k a b c d) (fun r => r.2.1 = 0 → okp r.1 = true) := by
  by_cases hz : a = 0 ∧ b = 0 ∧ c = 0
  · obtain ⟨rfl, rfl, rfl⟩ := hz
    refine ⟨(⟨0, 0, 0, 0⟩, 1, ()), .now fun k => ?_, fun h => by cases h⟩
    simp [spec_Primitive.f]
  · exact (Primitive_ev ha hb hc hd hz).ex (primV_ok hz)
theorem ok_dflt : okp ⟨0, 0, 1, -1⟩ = true := by rw [okp_iff]; decide
theorem prim_end {s : Cur} (hs : SI s) {a b c d : Int} (ha : sm a) (hb : sm b) (hc : sm c) (hd : sm d) : Ex (fun k => (spec_Primitive.f k a b c d).bind fun t => if (t.2.1 != 0) = true then (some ((⟨0, 0, 1, (-1)⟩ : S4), (s.1, s.2.1, s.2.2.1, ()))) else (some (t.1, (s.1, s.2.1, s.2.2.1, ())))) (fun b => okp b.1 = true ∧ SI b.2) := by
  refine Ex.bind (Primitive_ex ha hb hc hd) fun t ht => ?_
  by_cases h0 : t.2.1 = 0
  · have : ¬ ((t.2.1 != 0) = true) := by simp [h0]
    simp only [if_neg this]
    exact Ex.now ⟨ht h0, hs⟩
  · have : (t.2.1 != 0) = true := by simp [h0]
    simp only [if_pos this]
    exact Ex.now ⟨ok_dflt, hs⟩
theorem sm_of {x : Int} (h : -1000 ≤ x ∧ x ≤ 1000) : sm x := by unfold sm; omega
theorem l3D_ex {s : Cur} (h : SI s) {g : Nat → Int → Cur → Option (S4 × Cur)} (hg : ∀ (x : Int) (t : Cur), (-500 ≤ x ∧ x ≤ 500) → SI t → Ex (fun k => g k x t) (fun b => okp b.1 = true ∧ SI b.2)) :
    Ex (fun k => (spec_l1Below.f k s 25).bind fun t7 => (spec_l1Int.f k (t7.2.1, t7.2.2.1, t7.2.2.2.1, ()) ([0, 1, (-1), 2, (-4), (W (t7.1 - 12)), 500, (-500)] : List Int)).bind fun t8 => g k t8.1 t8.2) (fun b => okp b.1 = true ∧ SI b.2) := by
  refine Ex.bind (l1Below_ex h 25) fun v hv => ?_
  obtain ⟨⟨h0, h1, _⟩, h2⟩ := hv
  have h1 := h1 (by omega)
  refine Ex.bind (l1Int_ex h2 (by simp)) fun u hu => ?_
  have hw : W (v.1 - 12) = v.1 - 12 := W_id (by omega) (by omega)
  have := hu.1
  simp only [hw, List.mem_cons, List.not_mem_nil, or_false] at this
  exact hg _ _ (by omega) hu.2
theorem l3Draw_ex {s : Cur} (h : SI s) : Ex (fun k => spec_l3Draw.f k s) (fun b => okp b.1 = true ∧ SI b.2) := by
  unfold spec_l3Draw.f
  refine Ex.bind (l3Coef_ex h) fun t1 h1 => ?_
  refine Ex.bind (l3Coef_ex h1.2) fun t2 h2 => ?_
  refine Ex.bind (l3Coef_ex h2.2) fun t3 h3 => ?_
  refine Ex.bind (l1Once_ex h3.2 2) fun t4 h4 => ?_
  have s0 : sm 0 := sm_of (by omega)
  by_cases c : t4.1 = true
  · simp only [if_pos c]
    refine Ex.bind (l1Int_ex h4 (by simp)) fun t5 h5 => ?_
    have s5 : sm t5.1 := by
      have := h5.1
      simp only [List.mem_cons, List.not_mem_nil, or_false] at this
      exact sm_of (by omega)
    refine Ex.bind (l1Once_ex h5.2 2) fun t6 h6 => ?_
    by_cases c6 : t6.1 = true
    · simp only [if_pos c6]
      exact l3D_ex h6 (g := fun k x t => (spec_Primitive.f k 0 t5.1 0 x).bind fun t9 => if (t9.2.1 != 0) = true then (some ((⟨0, 0, 1, (-1)⟩ : S4), (t.1, t.2.1, t.2.2.1, ()))) else (some (t9.1, (t.1, t.2.1, t.2.2.1, ())))) fun x t hx ht => prim_end ht s0 s5 s0 (sm_of (by omega))
    · simp only [if_neg c6]
      refine Ex.bind (l1Once_ex h6 2) fun t10 h10 => ?_
      by_cases c10 : t10.1 = true
      · simp only [if_pos c10]
        exact l3D_ex h10 (g := fun k x t => (spec_Primitive.f k 0 0 t5.1 x).bind fun t9 => if (t9.2.1 != 0) = true then (some ((⟨0, 0, 1, (-1)⟩ : S4), (t.1, t.2.1, t.2.2.1, ()))) else (some (t9.1, (t.1, t.2.1, t.2.2.1, ())))) fun x t hx ht => prim_end ht s0 s0 s5 (sm_of (by omega))
      · simp only [if_neg c10]
        exact l3D_ex h10 (g := fun k x t => (spec_Primitive.f k t5.1 0 0 x).bind fun t9 => if (t9.2.1 != 0) = true then (some ((⟨0, 0, 1, (-1)⟩ : S4), (t.1, t.2.1, t.2.2.1, ()))) else (some (t9.1, (t.1, t.2.1, t.2.2.1, ())))) fun x t hx ht => prim_end ht s5 s0 s0 (sm_of (by omega))
  · simp only [if_neg c]
    have r1 := h1.1; have r2 := h2.1; have r3 := h3.1
    exact l3D_ex h4 (g := fun k x t => (spec_Primitive.f k t1.1 t2.1 t3.1 x).bind fun t9 => if (t9.2.1 != 0) = true then (some ((⟨0, 0, 1, (-1)⟩ : S4), (t.1, t.2.1, t.2.2.1, ()))) else (some (t9.1, (t.1, t.2.1, t.2.2.1, ())))) fun x t hx ht => prim_end ht (sm_of (by omega)) (sm_of (by omega)) (sm_of (by omega)) (sm_of (by omega))
set_option linter.unusedSimpArgs false
set_option linter.unusedVariables false
def z40 : S4 := ⟨0, 0, 0, 0⟩
def tk (p : S4) : S4 := if okp p = true then p else z40
theorem tk_bd (p : S4) : Bd4 (tk p) := by
  unfold tk; split
  · exact okp_bd4 (by assumption)
  · unfold Bd4 Bd3 v3 z40; simp
theorem taken_ev (p : S4) : Ev (fun k => impl_taken.f k p) (tk p) := by
  unfold impl_taken.f tk
  refine Ev.bind (impl_PlaneOk_ev p) ?_
  cases okp p <;> exact .now fun _ => rfl
def D4 (p q r s : S4) : Int := -p.d * dt (v3 q) (v3 r) (v3 s) + q.d * dt (v3 p) (v3 r) (v3 s) - r.d * dt (v3 p) (v3 q) (v3 s) + s.d * dt (v3 p) (v3 q) (v3 r)
theorem D4_bd {p q r s : S4} (hp : Bd4 p) (hq : Bd4 q) (hr : Bd4 r) (hs : Bd4 s) : -1500000000000 ≤ D4 p q r s ∧ D4 p q r s ≤ 1500000000000 := by
  have m1 := mul_bd hp.2 (dt_bd hq.1 hr.1 hs.1)
  have m2 := mul_bd hq.2 (dt_bd hp.1 hr.1 hs.1)
  have m3 := mul_bd hr.2 (dt_bd hp.1 hq.1 hs.1)
  have m4 := mul_bd hs.2 (dt_bd hp.1 hq.1 hr.1)
  unfold D4
  rw [Int.neg_mul]; omega
def D3 (p q r : S4) : Int := dt (v3 p) (v3 q) (v3 r)
theorem dt_sw (p q r : S3) : dt q p r = -dt p q r := by simp only [dt, ip, cx]; grind
theorem dt_rot (p q r : S3) : dt q r p = dt p q r := by simp only [dt, ip, cx]; grind
theorem dt_sw2 (p q r : S3) : dt p r q = -dt p q r := by simp only [dt, ip, cx]; grind
theorem D4_sw (p q r s : S4) : D4 q p r s = -D4 p q r s := by
  unfold D4
  rw [dt_sw (v3 p) (v3 q) (v3 s), dt_sw (v3 p) (v3 q) (v3 r), Int.mul_neg, Int.mul_neg, Int.neg_mul, Int.neg_mul]; omega
theorem D4_sw3 (p q r s : S4) : D4 p q s r = -D4 p q r s := by
  unfold D4
  rw [dt_sw2 (v3 q) (v3 r) (v3 s), dt_sw2 (v3 p) (v3 r) (v3 s)]; simp only [Int.mul_neg, Int.neg_mul]; omega
theorem lagr (p q : S3) : ip p p * ip q q = ip p q * ip p q + ip (cx p q) (cx p q) := by simp only [ip, cx]; grind
theorem ip_z3 : ip z3 z3 = 0 := by decide
theorem okp_nz {p : S4} (h : okp p = true) : ip (v3 p) (v3 p) ≠ 0 := fun e => by
  have := ip_zero e
  have h5 := (okp_iff.mp h).2.2.2.2.1
  simp only [v3] at this
  omega
theorem par_iff {p q : S4} (hp : okp p = true) (hq : okp q = true) : par (v3 p) (v3 q) ≠ 0 ↔ cx (v3 p) (v3 q) = z3 := by
  unfold par
  by_cases h : cx (v3 p) (v3 q) = z3
  · rw [if_pos h]
    refine ⟨fun _ => h, fun _ e => ?_⟩
    have e0 : ip (v3 p) (v3 q) = 0 := by
      unfold sgn at e; split at e
      · cases e
      · split at e
        · cases e
        · omega
    have l := lagr (v3 p) (v3 q)
    rw [e0, h, ip_z3] at l
    simp only [Int.mul_zero, Int.add_zero] at l
    rcases Int.mul_eq_zero.mp l with h1 | h1
    · exact okp_nz hp h1
    · exact okp_nz hq h1
  · rw [if_neg h]; simp [h]
theorem tk_ok {p : S4} (h : okp p = true) : tk p = p := if_pos h
abbrev Rw := Int × Int × Int × Int × Int × Int × Unit
theorem rank_step {L : List S4} {i : Nat} {x4 : Int} {b : Rw} {v : impl_Rank.B4} (hi : i < L.length) (hl : L.length ≤ 100) (hb : Bd3 ⟨b.1, b.2.1, b.2.2.1⟩) (hb2 : Bd3 ⟨b.2.2.2.1, b.2.2.2.2.1, b.2.2.2.2.2.1⟩)
    (h0 : x4 = 0 → v3 (tk (rd L (i : Int))) ≠ z3 ∧ Lv (fun k n => impl_Rank.l4 k n 1 L (L.length : Int) ((i + 1 : Nat) : Int) ((v3 (tk (rd L (i : Int)))).x, (v3 (tk (rd L (i : Int)))).y, (v3 (tk (rd L (i : Int)))).z, b.2.2.2.1, b.2.2.2.2.1, b.2.2.2.2.2.1, ())) v)
    (h1 : x4 = 1 → (cx ⟨b.1, b.2.1, b.2.2.1⟩ (v3 (tk (rd L (i : Int)))) = z3 ∧ Lv (fun k n => impl_Rank.l4 k n 1 L (L.length : Int) ((i + 1 : Nat) : Int) b) v) ∨ (cx ⟨b.1, b.2.1, b.2.2.1⟩ (v3 (tk (rd L (i : Int)))) ≠ z3 ∧ Lv (fun k n => impl_Rank.l4 k n 2 L (L.length : Int) ((i + 1 : Nat) : Int) (b.1, b.2.1, b.2.2.1, (v3 (tk (rd L (i : Int)))).x, (v3 (tk (rd L (i : Int)))).y, (v3 (tk (rd L (i : Int)))).z, ())) v))
    (h2 : x4 = 2 → dt ⟨b.1, b.2.1, b.2.2.1⟩ ⟨b.2.2.2.1, b.2.2.2.2.1, b.2.2.2.2.2.1⟩ (v3 (tk (rd L (i : Int)))) ≠ 0 ∧ v = .inl ((3, ()), ()))
    (h3 : x4 = 0 ∨ x4 = 1 ∨ x4 = 2) : Lv (fun k n => impl_Rank.l4 k n x4 L (L.length : Int) (i : Int) b) v := by
  have f1 : (i : Int) < (L.length : Int) := by omega
  have f0 : (0 : Int) ≤ (i : Int) := by omega
  have w : W ((i : Int) + 1) = ((i + 1 : Nat) : Int) := by rw [W_id (by omega) (by omega)]; omega
  have bt := (tk_bd (rd L (i : Int))).1
  refine Lv.step (g := fun k n => impl_Rank.s4 k (impl_Rank.l4 k n) x4 L (L.length : Int) (i : Int) b) ?_ (fun _ _ => rfl)
  unfold impl_Rank.s4
  simp only [decide_eq_true_eq, if_pos f1, if_pos f0, w, normal_f, Option.bind_some, eq_iff, z3_iff]
  refine Lv.bind (taken_ev (rd L (i : Int))) ?_
  rcases h3 with rfl | rfl | rfl
  · obtain ⟨hn, hv⟩ := h0 rfl
    simp only [if_true, if_pos hn]
    exact hv
  · have e0 : ¬ ((1 : Int) = 0) := by decide
    have e2 : ¬ ((1 : Int) = 2) := by decide
    simp only [if_neg e0, if_true]
    rcases h1 rfl with ⟨hc, hv⟩ | ⟨hc, hv⟩
    · refine hv.congr fun k n => ?_
      rw [crossOf_f k hb bt, Option.bind_some, if_neg (by simpa using hc), if_neg e2]
    · refine hv.congr fun k n => ?_
      rw [crossOf_f k hb bt, Option.bind_some, if_pos hc]
  · have e0 : ¬ ((2 : Int) = 0) := by decide
    have e1 : ¬ ((2 : Int) = 1) := by decide
    simp only [if_neg e0, if_neg e1, if_true]
    obtain ⟨hd, rfl⟩ := h2 rfl
    refine .now fun k n => ?_
    rw [det_f k hb hb2 bt, Option.bind_some, if_pos (by simpa using hd)]
theorem rank_end {L : List S4} {x4 : Int} {b : Rw} : Lv (fun k n => impl_Rank.l4 k n x4 L (L.length : Int) (L.length : Int) b) (.inr ((x4, ()), ())) := by
  refine Lv.step (g := fun k n => impl_Rank.s4 k (impl_Rank.l4 k n) x4 L (L.length : Int) (L.length : Int) b) ?_ (fun _ _ => rfl)
  refine .now fun k n => ?_
  simp only [impl_Rank.s4, decide_eq_true_eq]
  rw [if_neg (by omega)]
theorem bd3_z : Bd3 z3 := by unfold Bd3 z3; simp
theorem v3_nz {p : S4} (h : okp p = true) : v3 p ≠ z3 := fun e => okp_nz h (by rw [e]; exact ip_z3)
theorem Rank2_ev {p q : S4} (hp : okp p = true) (hq : okp q = true) : Ev (fun k => impl_Rank.f k [p, q]) (if cx (v3 p) (v3 q) = z3 then 1 else 2) := by
  have b1 := (okp_bd4 hp).1
  have key : Lv (fun k n => impl_Rank.l4 k n 0 [p, q] (([p, q] : List S4).length : Int) ((0 : Nat) : Int) (0, 0, 0, 0, 0, 0, ())) (.inr ((if cx (v3 p) (v3 q) = z3 then 1 else 2, ()), ())) := by
    refine rank_step (i := 0) (by simp) (by simp) bd3_z bd3_z (fun _ => ⟨by show v3 (tk p) ≠ z3; rw [tk_ok hp]; exact v3_nz hp, ?_⟩) (fun h => by cases h) (fun h => by cases h) (.inl rfl)
    refine rank_step (i := 1) (by simp) (by simp) (by show Bd3 (v3 (tk p)); rw [tk_ok hp]; exact b1) bd3_z (fun h => by cases h) (fun _ => ?_) (fun h => by cases h) (.inr (.inl rfl))
    by_cases c : cx (v3 p) (v3 q) = z3
    · rw [if_pos c]
      refine .inl ⟨?_, rank_end⟩
      show cx (v3 (tk p)) (v3 (tk q)) = z3
      rw [tk_ok hp, tk_ok hq]; exact c
    · rw [if_neg c]
      refine .inr ⟨?_, rank_end⟩
      show cx (v3 (tk p)) (v3 (tk q)) ≠ z3
      rw [tk_ok hp, tk_ok hq]; exact c
  unfold impl_Rank.f
  exact Ev.bind key.ev (.now fun _ => rfl)
theorem Rank3_ev {p q r : S4} (hp : okp p = true) (hq : okp q = true) (h : D3 (tk p) (tk q) (tk r) ≠ 0) : Ev (fun k => impl_Rank.f k [p, q, r]) 3 := by
  have b1 := (okp_bd4 hp).1
  have b2 := (okp_bd4 hq).1
  have hc : cx (v3 p) (v3 q) ≠ z3 := fun e => h (by
    rw [tk_ok hp, tk_ok hq]
    show dt (v3 p) (v3 q) (v3 (tk r)) = 0
    rw [← dt_rot, ← dt_rot]; unfold dt; rw [e]; simp [ip, z3])
  have key : Lv (fun k n => impl_Rank.l4 k n 0 [p, q, r] (([p, q, r] : List S4).length : Int) ((0 : Nat) : Int) (0, 0, 0, 0, 0, 0, ())) (.inl ((3, ()), ())) := by
    refine rank_step (i := 0) (by simp) (by simp) bd3_z bd3_z (fun _ => ⟨by show v3 (tk p) ≠ z3; rw [tk_ok hp]; exact v3_nz hp, ?_⟩) (fun h => by cases h) (fun h => by cases h) (.inl rfl)
    refine rank_step (i := 1) (by simp) (by simp) (by show Bd3 (v3 (tk p)); rw [tk_ok hp]; exact b1) bd3_z (fun h => by cases h) (fun _ => .inr ⟨?_, ?_⟩) (fun h => by cases h) (.inr (.inl rfl))
    · show cx (v3 (tk p)) (v3 (tk q)) ≠ z3
      rw [tk_ok hp, tk_ok hq]; exact hc
    · refine rank_step (i := 2) (by simp) (by simp) (by show Bd3 (v3 (tk p)); rw [tk_ok hp]; exact b1) (by show Bd3 (v3 (tk q)); rw [tk_ok hq]; exact b2) (fun h => by cases h) (fun h => by cases h) (fun _ => ⟨?_, rfl⟩) (.inr (.inr rfl))
      exact h
  unfold impl_Rank.f
  exact Ev.bind key.ev (.now fun _ => rfl)
set_option linter.unusedSimpArgs false
set_option linter.unusedVariables false
theorem cx_tk0 {p q : S4} (h : okp p = false ∨ okp q = false) : cx (v3 (tk p)) (v3 (tk q)) = z3 := by
  have e : ∀ p : S4, okp p = false → v3 (tk p) = z3 := fun p h => by unfold tk; rw [if_neg (by simp [h])]; rfl
  rcases h with h | h
  · rw [e p h]; simp [cx, z3]
  · rw [e q h]; simp [cx, z3]
theorem z3_eq (c : S3) : ((c.x == 0) && ((c.y == 0) && (c.z == 0))) = decide (c = z3) := by
  rw [Bool.eq_iff_iff, decide_eq_true_iff, S3_ext]; simp [z3]
set_option linter.unusedSimpArgs false
set_option linter.unusedVariables false
def shD (p : S4) (b : S3) : Int := p.d - (p.a * b.x + p.b * b.y + p.c * b.z)
def PtOk (b : S3) : Prop := (-1000000 ≤ b.x ∧ b.x ≤ 1000000) ∧ (-1000000 ≤ b.y ∧ b.y ≤ 1000000) ∧ (-1000000 ≤ b.z ∧ b.z ≤ 1000000)
instance (b : S3) : Decidable (PtOk b) := by unfold PtOk; infer_instance
theorem shD_bd {p : S4} {b : S3} (hp : Bd4 p) (hb : PtOk b) : (-1500000500 ≤ shD p b ∧ shD p b ≤ 1500000500) ∧ W (p.d - W (W (W (p.a * b.x) + W (p.b * b.y)) + W (p.c * b.z))) = shD p b := by
  obtain ⟨⟨ha, hb', hc⟩, hd⟩ := hp
  simp only [v3] at ha hb' hc
  have m1 := mul_bd ha hb.1; have m2 := mul_bd hb' hb.2.1; have m3 := mul_bd hc hb.2.2
  have bd : -1500000500 ≤ p.d - (p.a * b.x + p.b * b.y + p.c * b.z) ∧ p.d - (p.a * b.x + p.b * b.y + p.c * b.z) ≤ 1500000500 := by omega
  refine ⟨bd, ?_⟩
  simp only [W_add_l, W_add_r, W_sub_r]
  exact W_id (by omega) (by omega)
theorem shD_dvd {p : S4} {b : S3} (G : Nat) (ha : G ∣ p.a.natAbs) (hb : G ∣ p.b.natAbs) (hc : G ∣ p.c.natAbs) (hd : G ∣ (shD p b).natAbs) : G ∣ p.d.natAbs := by
  have ka := Int.ofNat_dvd_left.mpr ha; have kb := Int.ofNat_dvd_left.mpr hb; have kc := Int.ofNat_dvd_left.mpr hc; have kd := Int.ofNat_dvd_left.mpr hd
  have e : p.d = shD p b + (p.a * b.x + p.b * b.y + p.c * b.z) := by unfold shD; omega
  refine Int.ofNat_dvd_left.mp ?_
  rw [e]
  exact Int.dvd_add kd (Int.dvd_add (Int.dvd_add (Int.dvd_mul_of_dvd_left ka) (Int.dvd_mul_of_dvd_left kb)) (Int.dvd_mul_of_dvd_left kc))
def shP (p : S4) (b : S3) : S4 := ⟨p.a, p.b, p.c, shD p b⟩
def shV (p : S4) (b : S3) : S4 × Int × Unit := if okp p = true ∧ PtOk b then (if inC (shD p b) then (shP p b, 0, ()) else (⟨0, 0, 0, 0⟩, 2, ())) else (⟨0, 0, 0, 0⟩, 1, ())
theorem isCoef_f (k : Nat) (x : Int) : impl_isCoef.f k x = some (decide (inC x)) := by
  simp only [impl_isCoef.f, inRange_f, Option.bind_some]; rfl
theorem at_ex {a : List Int} (h : a.length ≤ 1048576) (hb : ∀ x ∈ a, 0 ≤ x ∧ x ≤ 255) (i : Nat) (hi : i ≤ 1000) : Ex (fun k => laws_at.f k a (i : Int)) (fun x => 0 ≤ x ∧ x ≤ 255) := by
  unfold laws_at.f
  simp only [decide_eq_true_eq]
  by_cases c : (i : Int) < (a.length : Int)
  · have f0 : (0 : Int) ≤ (i : Int) := by omega
    have hm : i < a.length := by omega
    have := hb _ (List.getElem_mem hm)
    simp only [if_pos c, if_pos f0, rd_get hm]
    refine Ex.now ?_
    rw [W_id (by omega) (by omega)]; exact this
  · have t : ¬ ((256 : Int) = 0) := by decide
    have t' : ¬ ((256 : Nat) = 0) := by decide
    simp only [if_neg c, if_neg t, if_neg t']
    refine Ex.now ?_
    have e : 0 ≤ W (W ((i : Int) * 31) + W ((a.length : Int) * 7)) := by
      rw [W_id (x := (i : Int) * 31) (by omega) (by omega), W_id (x := (a.length : Int) * 7) (by omega) (by omega), W_id (by omega) (by omega)]; omega
    have := tmod_bd e (show (0 : Int) < 256 by omega)
    omega
def vat (p : S4) (b : S3) : Int := p.a * b.x + p.b * b.y + p.c * b.z + p.d
theorem par_self {p : S4} (h : okp p = true) : par (v3 p) (v3 p) = 1 := by
  have hc : cx (v3 p) (v3 p) = z3 := by simp only [cx, z3, S3.mk.injEq]; refine ⟨?_, ?_, ?_⟩ <;> grind
  have := okp_nz h
  have := ip_nn (v3 p)
  unfold par
  rw [if_pos hc, sgn_one]; omega
theorem shP_ok {p : S4} {b : S3} (hp : okp p = true) (h : inC (shD p b)) : okp (shP p b) = true := by
  obtain ⟨ha, hb, hc, hd, hnz, hg⟩ := okp_iff.mp hp
  rw [okp_iff]
  refine ⟨ha, hb, hc, h, hnz, ?_⟩
  have := g4_one (a := p.a) (b := p.b) (c := p.c) (d2 := shD p b) hg (fun G => shD_dvd G)
  rw [g4_eq] at this
  exact this
set_option linter.unusedSimpArgs false
set_option linter.unusedVariables false
theorem gcd_le' {x y : Int} {N : Nat} (hx : x.natAbs ≤ N) (hy : y.natAbs ≤ N) : Nat.gcd x.natAbs y.natAbs ≤ N := by
  by_cases z : x.natAbs = 0
  · rw [z, Nat.gcd_zero_left]; exact hy
  · exact Nat.le_trans (Nat.gcd_le_left _ (by omega)) hx
def spk (s : S4) : Bool := decide ((1 ≤ s.d ∧ s.d ≤ 1000000000) ∧ (-1000000000 ≤ s.a ∧ s.a ≤ 1000000000) ∧ (-1000000000 ≤ s.b ∧ s.b ≤ 1000000000) ∧ (-1000000000 ≤ s.c ∧ s.c ≤ 1000000000)) && (((Nat.gcd (Nat.gcd s.a.natAbs s.b.natAbs) (Nat.gcd s.c.natAbs s.d.natAbs) : Nat) : Int) == 1)
def sd (p s : S4) : Int := sgn (W ((W ((W ((W (p.a * s.a)) + (W (p.b * s.b)))) + (W (p.c * s.c)))) + (W (p.d * s.d))))
theorem sideAt_f (k : Nat) (p s : S4) : impl_sideAt.f k p s = some (sd p s) := by simp only [impl_sideAt.f, sign_f, Option.bind_some, sd]
def mX (p q r : S4) : Int := dt ⟨-p.d, p.b, p.c⟩ ⟨-q.d, q.b, q.c⟩ ⟨-r.d, r.b, r.c⟩
def mY (p q r : S4) : Int := dt ⟨p.a, -p.d, p.c⟩ ⟨q.a, -q.d, q.c⟩ ⟨r.a, -r.d, r.c⟩
def mZ (p q r : S4) : Int := dt ⟨p.a, p.b, -p.d⟩ ⟨q.a, q.b, -q.d⟩ ⟨r.a, r.b, -r.d⟩
def mG (p q r : S4) : Nat := Nat.gcd (Nat.gcd (mX p q r).natAbs (mY p q r).natAbs) (Nat.gcd (mZ p q r).natAbs (D3 p q r).natAbs)
def mH (p q r : S4) : Int := if D3 p q r < 0 then -(mG p q r : Int) else (mG p q r : Int)
def mS (p q r : S4) : S4 := ⟨(mX p q r).tdiv (mH p q r), (mY p q r).tdiv (mH p q r), (mZ p q r).tdiv (mH p q r), (D3 p q r).tdiv (mH p q r)⟩
theorem m_bd {p q r : S4} (hp : Bd4 p) (hq : Bd4 q) (hr : Bd4 r) : (-750000000 ≤ mX p q r ∧ mX p q r ≤ 750000000) ∧ (-750000000 ≤ mY p q r ∧ mY p q r ≤ 750000000) ∧ (-750000000 ≤ mZ p q r ∧ mZ p q r ≤ 750000000) ∧ (-750000000 ≤ D3 p q r ∧ D3 p q r ≤ 750000000) := by
  obtain ⟨⟨a1, a2, a3⟩, a4⟩ := hp
  obtain ⟨⟨b1, b2, b3⟩, b4⟩ := hq
  obtain ⟨⟨c1, c2, c3⟩, c4⟩ := hr
  simp only [v3] at a1 a2 a3 b1 b2 b3 c1 c2 c3
  have na : -500 ≤ -p.d ∧ -p.d ≤ 500 := by omega
  have nb : -500 ≤ -q.d ∧ -q.d ≤ 500 := by omega
  have nc : -500 ≤ -r.d ∧ -r.d ≤ 500 := by omega
  exact ⟨dt_bd ⟨na, a2, a3⟩ ⟨nb, b2, b3⟩ ⟨nc, c2, c3⟩, dt_bd ⟨a1, na, a3⟩ ⟨b1, nb, b3⟩ ⟨c1, nc, c3⟩, dt_bd ⟨a1, a2, na⟩ ⟨b1, b2, nb⟩ ⟨c1, c2, nc⟩, dt_bd ⟨a1, a2, a3⟩ ⟨b1, b2, b3⟩ ⟨c1, c2, c3⟩⟩
theorem mG_le {p q r : S4} (hp : Bd4 p) (hq : Bd4 q) (hr : Bd4 r) : mG p q r ≤ 750000000 := by
  obtain ⟨bx, by_, bz, bw⟩ := m_bd hp hq hr
  have h1 := gcd_le' (x := mX p q r) (y := mY p q r) (N := 750000000) (by omega) (by omega)
  have h2 := gcd_le' (x := mZ p q r) (y := D3 p q r) (N := 750000000) (by omega) (by omega)
  have h3 := gcd_le' (x := ((Nat.gcd (mX p q r).natAbs (mY p q r).natAbs : Nat) : Int)) (y := ((Nat.gcd (mZ p q r).natAbs (D3 p q r).natAbs : Nat) : Int)) (N := 750000000) (by omega) (by omega)
  simp only [Int.natAbs_natCast] at h3
  exact h3
theorem mG_pos {p q r : S4} (h : D3 p q r ≠ 0) : 0 < mG p q r := by
  refine Nat.pos_of_ne_zero fun e => h ?_
  have := Nat.eq_zero_of_gcd_eq_zero_right (Nat.eq_zero_of_gcd_eq_zero_right e)
  omega
theorem mG_dvd (p q r : S4) : (mG p q r ∣ (mX p q r).natAbs ∧ mG p q r ∣ (mY p q r).natAbs) ∧ mG p q r ∣ (mZ p q r).natAbs ∧ mG p q r ∣ (D3 p q r).natAbs :=
  ⟨⟨Nat.dvd_trans (Nat.gcd_dvd_left _ _) (Nat.gcd_dvd_left _ _), Nat.dvd_trans (Nat.gcd_dvd_left _ _) (Nat.gcd_dvd_right _ _)⟩, Nat.dvd_trans (Nat.gcd_dvd_right _ _) (Nat.gcd_dvd_left _ _), Nat.dvd_trans (Nat.gcd_dvd_right _ _) (Nat.gcd_dvd_right _ _)⟩
theorem mH_abs (p q r : S4) : (mH p q r).natAbs = mG p q r := by unfold mH; split <;> omega
theorem tdiv_bd {x h : Int} {B : Int} (hx : -B ≤ x ∧ x ≤ B) (hh : h ≠ 0) : -B ≤ x.tdiv h ∧ x.tdiv h ≤ B := by
  have e := Int.natAbs_tdiv x h
  have : (x.tdiv h).natAbs ≤ x.natAbs := by rw [e]; exact Nat.div_le_self _ _
  omega
theorem mul_tdiv {x h : Int} (hd : h.natAbs ∣ x.natAbs) : h * x.tdiv h = x := Int.mul_tdiv_cancel' (Int.natAbs_dvd_natAbs.mp hd)
theorem wdiv {x h : Int} (hx : -750000000 ≤ x ∧ x ≤ 750000000) (hh : h ≠ 0) : W (x.tdiv h) = x.tdiv h := by
  have := tdiv_bd hx hh
  exact W_id (by omega) (by omega)
theorem meet3_ev {p q r : S4} (hp : Bd4 p) (hq : Bd4 q) (hr : Bd4 r) : Ev (fun k => impl_meet3.f k p q r) (if D3 p q r = 0 then (⟨0, 0, 0, 0⟩, false, ()) else (mS p q r, true, ())) := by
  obtain ⟨bx, by_, bz, bw⟩ := m_bd hp hq hr
  have gl := mG_le hp hq hr
  obtain ⟨⟨a1, a2, a3⟩, a4⟩ := hp
  obtain ⟨⟨b1, b2, b3⟩, b4⟩ := hq
  obtain ⟨⟨c1, c2, c3⟩, c4⟩ := hr
  simp only [v3] at a1 a2 a3 b1 b2 b3 c1 c2 c3
  have na : -500 ≤ -p.d ∧ -p.d ≤ 500 := by omega
  have nb : -500 ≤ -q.d ∧ -q.d ≤ 500 := by omega
  have nc : -500 ≤ -r.d ∧ -r.d ≤ 500 := by omega
  have e1 : W (0 - p.d) = -p.d := W_neg (by omega)
  have e2 : W (0 - q.d) = -q.d := W_neg (by omega)
  have e3 : W (0 - r.d) = -r.d := W_neg (by omega)
  have d0 : ∀ k, impl_det3.f k p q r = some (D3 p q r) := fun k => det3_f k ⟨a1, a2, a3⟩ ⟨b1, b2, b3⟩ ⟨c1, c2, c3⟩
  have d1 : ∀ k, impl_det.f k ⟨-p.d, p.b, p.c⟩ ⟨-q.d, q.b, q.c⟩ ⟨-r.d, r.b, r.c⟩ = some (mX p q r) := fun k => det_f k ⟨na, a2, a3⟩ ⟨nb, b2, b3⟩ ⟨nc, c2, c3⟩
  have d2 : ∀ k, impl_det.f k ⟨p.a, -p.d, p.c⟩ ⟨q.a, -q.d, q.c⟩ ⟨r.a, -r.d, r.c⟩ = some (mY p q r) := fun k => det_f k ⟨a1, na, a3⟩ ⟨b1, nb, b3⟩ ⟨c1, nc, c3⟩
  have d3 : ∀ k, impl_det.f k ⟨p.a, p.b, -p.d⟩ ⟨q.a, q.b, -q.d⟩ ⟨r.a, r.b, -r.d⟩ = some (mZ p q r) := fun k => det_f k ⟨a1, a2, na⟩ ⟨b1, b2, nb⟩ ⟨c1, c2, nc⟩
  unfold impl_meet3.f
  simp only [d0, e1, e2, e3, d1, d2, d3, Option.bind_some, eq_iff]
  by_cases c : D3 p q r = 0
  · simp only [if_pos c]; exact .now fun _ => rfl
  · simp only [if_neg c]
    have gp := mG_pos c
    have hdv := divisor4_ev (a := mX p q r) (b := mY p q r) (c := mZ p q r) (d := D3 p q r) (by omega) (by omega) (by omega) (by omega)
    refine Ev.bind hdv (.now fun k => ?_)
    show (if decide (D3 p q r < 0) = true then _ else _) = _
    rw [show Nat.gcd (Nat.gcd (mX p q r).natAbs (mY p q r).natAbs) (Nat.gcd (mZ p q r).natAbs (D3 p q r).natAbs) = mG p q r from rfl]
    have wn : W (0 - (mG p q r : Int)) = -(mG p q r : Int) := W_neg (by omega)
    simp only [decide_eq_true_eq, wn]
    by_cases n : D3 p q r < 0
    · have hH : mH p q r = -(mG p q r : Int) := if_pos n
      have h0 : ¬ (-(mG p q r : Int) = 0) := by omega
      rw [if_pos n, if_neg h0, if_neg h0, if_neg h0, if_neg h0, wdiv bx h0, wdiv by_ h0, wdiv bz h0, wdiv bw h0]
      unfold mS; rw [hH]
    · have hH : mH p q r = (mG p q r : Int) := if_neg n
      have h0 : ¬ ((mG p q r : Int) = 0) := by omega
      rw [if_neg n, if_neg h0, if_neg h0, if_neg h0, if_neg h0, wdiv bx h0, wdiv by_ h0, wdiv bz h0, wdiv bw h0]
      unfold mS; rw [hH]
theorem cramer (p q r s : S4) : s.a * mX p q r + s.b * mY p q r + s.c * mZ p q r + s.d * D3 p q r = D4 p q r s := by
  simp only [mX, mY, mZ, D3, D4, dt, ip, cx, v3]; grind
theorem D4_self1 (p q r : S4) : D4 p q r p = 0 := by simp only [D4, dt, ip, cx, v3]; grind
theorem D4_self2 (p q r : S4) : D4 p q r q = 0 := by simp only [D4, dt, ip, cx, v3]; grind
theorem D4_self3 (p q r : S4) : D4 p q r r = 0 := by simp only [D4, dt, ip, cx, v3]; grind
section
variable {p q r : S4} (hp : Bd4 p) (hq : Bd4 q) (hr : Bd4 r) (h : D3 p q r ≠ 0)
include h
theorem mH_ne : mH p q r ≠ 0 := by have := mG_pos h; have := mH_abs p q r; omega
omit h in
theorem mS_mul : mH p q r * (mS p q r).a = mX p q r ∧ mH p q r * (mS p q r).b = mY p q r ∧ mH p q r * (mS p q r).c = mZ p q r ∧ mH p q r * (mS p q r).d = D3 p q r := by
  obtain ⟨⟨d1, d2⟩, d3, d4⟩ := mG_dvd p q r
  exact ⟨mul_tdiv (by rw [mH_abs]; exact d1), mul_tdiv (by rw [mH_abs]; exact d2), mul_tdiv (by rw [mH_abs]; exact d3), mul_tdiv (by rw [mH_abs]; exact d4)⟩
include hp hq hr
theorem mS_ok : spk (mS p q r) = true := by
  obtain ⟨bx, by_, bz, bw⟩ := m_bd hp hq hr
  have hne := mH_ne h
  have tx := tdiv_bd bx hne; have ty := tdiv_bd by_ hne; have tz := tdiv_bd bz hne; have tw := tdiv_bd bw hne
  obtain ⟨_, _, _, m4⟩ := mS_mul (p := p) (q := q) (r := r)
  have hd1 : 1 ≤ (mS p q r).d := by
    have gp := mG_pos h
    unfold mH at m4
    by_cases n : D3 p q r < 0
    · rw [if_pos n] at m4
      by_cases z : (mS p q r).d ≤ 0
      · have := Int.mul_nonneg (show 0 ≤ (mG p q r : Int) by omega) (show 0 ≤ -(mS p q r).d by omega)
        rw [Int.neg_mul] at m4
        rw [Int.mul_neg] at this; omega
      · omega
    · rw [if_neg n] at m4
      by_cases z : (mS p q r).d ≤ 0
      · have := Int.mul_nonneg (show 0 ≤ (mG p q r : Int) by omega) (show 0 ≤ -(mS p q r).d by omega)
        rw [Int.mul_neg] at this; omega
      · omega
  have hg : Nat.gcd (Nat.gcd (mS p q r).a.natAbs (mS p q r).b.natAbs) (Nat.gcd (mS p q r).c.natAbs (mS p q r).d.natAbs) = 1 := by
    obtain ⟨⟨d1, d2⟩, d3, d4⟩ := mG_dvd p q r
    simp only [mS, Int.natAbs_tdiv, mH_abs]
    show Nat.gcd (Nat.gcd ((mX p q r).natAbs / mG p q r) ((mY p q r).natAbs / mG p q r)) (Nat.gcd ((mZ p q r).natAbs / mG p q r) ((D3 p q r).natAbs / mG p q r)) = 1
    rw [Nat.gcd_div d1 d2, Nat.gcd_div d3 d4, Nat.gcd_div (Nat.dvd_gcd d1 d2) (Nat.dvd_gcd d3 d4)]
    exact Nat.div_self (mG_pos h)
  unfold spk
  rw [hg, Bool.and_eq_true, decide_eq_true_iff]
  refine ⟨⟨⟨hd1, ?_⟩, ?_, ?_, ?_⟩, rfl⟩
  · show (D3 p q r).tdiv (mH p q r) ≤ 1000000000; omega
  · show -1000000000 ≤ (mX p q r).tdiv (mH p q r) ∧ (mX p q r).tdiv (mH p q r) ≤ 1000000000; omega
  · show -1000000000 ≤ (mY p q r).tdiv (mH p q r) ∧ (mY p q r).tdiv (mH p q r) ≤ 1000000000; omega
  · show -1000000000 ≤ (mZ p q r).tdiv (mH p q r) ∧ (mZ p q r).tdiv (mH p q r) ≤ 1000000000; omega
theorem sd_eq {s : S4} (hs : Bd4 s) : ∃ v : Int, sd s (mS p q r) = sgn v ∧ mH p q r * v = D4 p q r s := by
  obtain ⟨m1, m2, m3, m4⟩ := mS_mul (p := p) (q := q) (r := r)
  have hok := mS_ok hp hq hr h
  unfold spk at hok
  rw [Bool.and_eq_true, decide_eq_true_iff] at hok
  obtain ⟨⟨w, x, y, z⟩, _⟩ := hok
  obtain ⟨⟨a1, a2, a3⟩, a4⟩ := hs
  simp only [v3] at a1 a2 a3
  have w' : -1000000000 ≤ (mS p q r).d ∧ (mS p q r).d ≤ 1000000000 := by omega
  have n1 := mul_bd a1 x; have n2 := mul_bd a2 y; have n3 := mul_bd a3 z; have n4 := mul_bd a4 w'
  refine ⟨s.a * (mS p q r).a + s.b * (mS p q r).b + s.c * (mS p q r).c + s.d * (mS p q r).d, ?_, ?_⟩
  · unfold sd
    simp only [W_add_l, W_add_r]
    rw [W_id (by omega) (by omega)]
  · rw [← cramer p q r s, ← m1, ← m2, ← m3, ← m4]; grind
end
def opV (L : List S4) : Bool := L.all okp && decide (L.length ≤ 24) && opn L
theorem iOpen_ev {L : List S4} (hl : L.length ≤ 2097152) : Ev (fun k => impl_Open.f k L) (opV L) := by
  simp only [impl_Open.f, decide_eq_true_eq]
  unfold opV
  by_cases c : L.length ≤ 24
  · simp only [if_pos (show (L.length : Int) ≤ 24 by omega)]
    refine (planesOk_ev hl).bind ?_
    cases ha : L.all okp with
    | false => exact .now fun _ => rfl
    | true =>
      simp only [if_true, c, decide_true, Bool.and_self, Bool.true_and]
      exact (open_ev (fun p hp => List.all_eq_true.1 ha p hp) hl).bind (.now fun _ => rfl)
  · simp only [if_neg (show ¬ (L.length : Int) ≤ 24 by omega), c, decide_false, Bool.and_false, Bool.false_and]
    exact .now fun _ => rfl
theorem sOpen_ev {L : List S4} (hl : L.length ≤ 2097152) : Ev (fun k => spec_Open.f k L) (opV L) := by
  simp only [spec_Open.f]
  unfold opV
  refine (l6Right_ev hl).bind ?_
  cases ha : L.all okp && decide (L.length ≤ 24) with
  | false => exact .now fun _ => rfl
  | true =>
    rw [Bool.and_eq_true] at ha
    simp only [if_true, Bool.true_and]
    exact (l6Open_ev (fun p hp => List.all_eq_true.1 ha.1 p hp) hl).bind (.now fun _ => rfl)
set_option linter.unusedSimpArgs false
set_option linter.unusedVariables false
def AllOk (L : List S4) : Prop := ∀ p ∈ L, okp p = true
theorem AllOk.snoc {L : List S4} {p : S4} (h : AllOk L) (hp : okp p = true) : AllOk (L ++ [p]) := fun q hq => by
  rcases List.mem_append.1 hq with hq | hq
  · exact h q hq
  · rw [List.mem_singleton] at hq; subst hq; exact hp
theorem lt47_one {L : List S4} {p : S4} (h : L.length ≤ 1000) : lt47 (L.length + ([p] : List S4).length) = true := lt47_of (by rw [List.length_singleton]; omega)
def CellOk (L : List S4) : Prop := AllOk L ∧ opn L = true
theorem opn_snoc {L : List S4} {p : S4} (h : opn L = true) (hw : wl L p = false) : opn (L ++ [p]) = true := by
  unfold opn at h ⊢
  rw [Bool.not_eq_true'] at h ⊢
  cases ha : anyF (opF (L ++ [p])) (L ++ [p]).length 0 with
  | false => rfl
  | true =>
    exfalso
    obtain ⟨m, _, hm, hf⟩ := anyF_iff.1 ha
    have hml : m < L.length + 1 := by rw [List.length_append, List.length_singleton] at hm; omega
    by_cases hml' : m < L.length
    · have : opF (L ++ [p]) m = opF L m := by
        unfold opF
        rw [List.take_append_of_le_length (by omega)]
        congr 1
        simp [rd, List.getD_eq_getElem?_getD, List.getElem?_append_left hml']
      rw [this] at hf
      have : anyF (opF L) L.length 0 = true := anyF_iff.2 ⟨m, Nat.zero_le _, by omega, hf⟩
      rw [h] at this; cases this
    · have hme : m = L.length := by omega
      subst hme
      have : opF (L ++ [p]) L.length = wl L p := by
        unfold opF
        rw [List.take_left]
        congr 1
        simp [rd, List.getD_eq_getElem?_getD]
      rw [this, hw] at hf; cases hf
theorem l6Cell_l6 : ∀ (n : Nat) (s : Cur) (b : List S4), SI s → CellOk b → n ≤ 100 → b.length + n ≤ 200 → Lx (fun k m => spec_l6Cell.l6 k m (n : Int) s b) (fun r => SI r.2.1 ∧ CellOk r.2.2.1 ∧ r.2.2.1.length ≤ b.length + n)
  | 0, s, b, hs, hb, _, _ => by
    refine Lx.step (g := fun k m => spec_l6Cell.s6 k (spec_l6Cell.l6 k m) ((0 : Nat) : Int) s b) (Lx.now (v := (((), (), ()), (s, b, ()))) (fun k m => ?_) ⟨hs, hb, Nat.le_refl _⟩) (fun _ _ => rfl)
    simp only [spec_l6Cell.s6, decide_eq_true_eq]
    rw [if_neg (by omega)]
  | n + 1, s, b, hs, hb, hn, hl => by
    have w : W (((n + 1 : Nat) : Int) - 1) = (n : Int) := by rw [W_id (by omega) (by omega)]; omega
    have hpos : ((n + 1 : Nat) : Int) > 0 := by omega
    have hlt : ∀ p : S4, lt47 (b.length + ([p] : List S4).length) = true := fun p => lt47_one (by omega)
    refine Lx.step (g := fun k m => spec_l6Cell.s6 k (spec_l6Cell.l6 k m) ((n + 1 : Nat) : Int) s b) ?_ (fun _ _ => rfl)
    unfold spec_l6Cell.s6
    simp only [decide_eq_true_eq, if_pos hpos, w, hlt, if_true]
    refine Lx.bind (l3Draw_ex hs) fun t4 h4 => ?_
    refine Lx.bind ((l6With_ev hb.1 (okp_bd4 h4.1) (by omega)).ex rfl) fun t5 h5 => ?_
    cases t5
    · simp only [Bool.not_false, if_true]
      obtain ⟨v, hv, h1, h2, h3⟩ := l6Cell_l6 n t4.2 (b ++ [t4.1]) h4.2 ⟨hb.1.snoc h4.1, opn_snoc hb.2 h5⟩ (by omega) (by simp; omega)
      exact ⟨v, hv, h1, h2, by simp at h3; omega⟩
    · simp only [Bool.not_true, Bool.false_eq_true, if_false]
      obtain ⟨v, hv, h1, h2, h3⟩ := l6Cell_l6 n t4.2 b h4.2 hb (by omega) (by omega)
      exact ⟨v, hv, h1, h2, by omega⟩
def brk (m : Int) : List S4 := [⟨1, 0, 0, m⟩, ⟨-1, 0, 0, m⟩, ⟨0, 1, 0, m⟩, ⟨0, -1, 0, m + 1⟩, ⟨0, 0, 1, m⟩, ⟨0, 0, -1, m⟩]
theorem brk_ok {m : Int} (h : 1 ≤ m ∧ m ≤ 5) : CellOk (brk m) := by
  have : m = 1 ∨ m = 2 ∨ m = 3 ∨ m = 4 ∨ m = 5 := by omega
  rcases this with rfl | rfl | rfl | rfl | rfl <;> exact ⟨(by unfold AllOk brk; decide +kernel), (by decide +kernel)⟩
theorem l6Cell_ex {s : Cur} (h : SI s) {n : Int} (hn : 0 < n ∧ n ≤ 10) : Ex (fun k => spec_l6Cell.f k s n) (fun b => (CellOk b.1 ∧ b.1.length ≤ 16) ∧ SI b.2) := by
  unfold spec_l6Cell.f
  refine Ex.bind (l1Once_ex h 4) fun t1 h1 => ?_
  by_cases c : (!t1.1) = true
  · simp only [if_pos c]
    refine Ex.bind (l1Below_ex h1 5) fun t2 h2 => ?_
    refine Ex.bind (l1Below_ex h2.2 n) fun t3 h3 => ?_
    obtain ⟨⟨j0, j1, _⟩, h2⟩ := h2
    obtain ⟨⟨i0, i1, _⟩, h3⟩ := h3
    have i1 := i1 (by omega)
    have j1 := j1 (by omega)
    obtain ⟨m, hm⟩ : ∃ m : Nat, t3.1 = (m : Int) := ⟨t3.1.toNat, by omega⟩
    have w1 : W (1 + t2.1) = 1 + t2.1 := W_id (by omega) (by omega)
    have w2 : W (1 + t2.1 + 1) = 1 + t2.1 + 1 := W_id (by omega) (by omega)
    simp only [hm, w1, w2]
    refine Ex.bind (l6Cell_l6 m t3.2 (brk (1 + t2.1)) h3 (brk_ok (by omega)) (by omega) (by unfold brk; simp; omega)).ex fun v hv => Ex.now ⟨⟨hv.2.1, ?_⟩, hv.1⟩
    have := hv.2.2
    rw [show (brk (1 + t2.1)).length = 6 from rfl] at this
    show v.2.2.1.length ≤ 16
    omega
  · simp only [if_neg c]
    refine Ex.bind (l1Below_ex h1 n) fun t3 h3 => ?_
    obtain ⟨⟨i0, i1, _⟩, h3⟩ := h3
    have i1 := i1 (by omega)
    obtain ⟨m, hm⟩ : ∃ m : Nat, t3.1 = (m : Int) := ⟨t3.1.toNat, by omega⟩
    simp only [hm]
    refine Ex.bind (l6Cell_l6 m t3.2 [] h3 ⟨(fun _ h => by cases h), rfl⟩ (by omega) (by simp; omega)).ex fun v hv => Ex.now ⟨⟨hv.2.1, ?_⟩, hv.1⟩
    have := hv.2.2
    rw [List.length_nil] at this
    show v.2.2.1.length ≤ 16
    omega
end Go.Proofs.YtalkkenkeilmpaaGreat.Q
