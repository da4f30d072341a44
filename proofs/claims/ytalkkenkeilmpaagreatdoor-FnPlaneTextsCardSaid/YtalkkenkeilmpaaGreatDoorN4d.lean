/- Picked out of other texts. -/
import Derived.Test.YtalkkenkeilmpaaGreatDoorN3
import Derived.Test.YtalkkenkeilmpaaGreatDoorX0
namespace Go.Proofs.YtalkkenkeilmpaaGreatDoor.Q
open Go Go.RowKit Go.Proofs Go.Proofs.YtalkkenkeilmpaaGreatDoor.Ev Go.Proofs.YtalkkenkeilmpaaGreatDoor.G
set_option linter.unusedSimpArgs false
set_option linter.unusedVariables false


/-- a cursor: the bytes, the place, the number that follows. -/
abbrev Cur := List Int × Int × Int × Unit
def SI (s : Cur) : Prop := 0 ≤ s.2.1 ∧ s.1.length ≤ 1099511627776
theorem andW_255 (x : Int) : 0 ≤ andW x 255 ∧ andW x 255 ≤ 255 := by
  unfold andW
  have h : (BitVec.ofInt (IntKind.bits .i64) x &&& BitVec.ofInt (IntKind.bits .i64) 255).toNat ≤ 255 := by
    rw [BitVec.toNat_and]
    exact Nat.le_trans Nat.and_le_right (by decide)
  generalize (BitVec.ofInt (IntKind.bits .i64) x &&& BitVec.ofInt (IntKind.bits .i64) 255).toNat = z at h
  have e : IntKind.wrap .i64 (z : Int) = (z : Int) := W_id (x := (z : Int)) (by omega) (by omega)
  rw [e]; omega
theorem l1Byte_ex {s : Cur} (h : SI s) : Ex (fun k => spec_l1Byte.f k s) (fun b => (0 ≤ b.1 ∧ b.1 ≤ 255) ∧ SI b.2) := by
  obtain ⟨h0, h1⟩ := h
  unfold spec_l1Byte.f
  simp only [decide_eq_true_eq]
  by_cases c : s.2.1 < (s.1.length : Int)
  · simp only [if_pos c, if_pos h0]
    refine Ex.now ⟨andW_255 _, ?_, h1⟩
    show 0 ≤ W (s.2.1 + 1)
    rw [W_id (by omega) (by omega)]; omega
  · simp only [if_neg c]
    exact Ex.now ⟨andW_255 _, h0, h1⟩
theorem tmod_bd {a b : Int} (ha : 0 ≤ a) (hb : 0 < b) : 0 ≤ a.tmod b ∧ a.tmod b < b := by
  rw [tmod_e ha]; exact ⟨Int.emod_nonneg _ (by omega), Int.emod_lt_of_pos _ hb⟩
theorem l1Below_ex {s : Cur} (h : SI s) (n : Int) : Ex (fun k => spec_l1Below.f k s n) (fun b => (0 ≤ b.1 ∧ (0 < n → b.1 < n) ∧ (n ≤ 0 → b.1 = 0)) ∧ SI b.2) := by
  unfold spec_l1Below.f
  simp only [decide_eq_true_eq]
  by_cases c : n ≤ 0
  · simp only [if_pos c]
    exact Ex.now ⟨⟨Int.le_refl _, fun h => by omega, fun _ => rfl⟩, h⟩
  · have hn : ¬ n = 0 := by omega
    simp only [if_neg c]
    by_cases c2 : n ≤ 256
    · simp only [if_pos c2, if_neg hn]
      refine Ex.bind (l1Byte_ex h) fun v hv => Ex.now ?_
      have := tmod_bd hv.1.1 (show 0 < n by omega)
      exact ⟨⟨this.1, fun _ => this.2, fun h => by omega⟩, hv.2⟩
    · simp only [if_neg c2, if_neg hn]
      refine Ex.bind (l1Byte_ex h) fun v hv => ?_
      refine Ex.bind (l1Byte_ex hv.2) fun u hu => ?_
      refine Ex.bind (l1Byte_ex hu.2) fun t ht => Ex.now ?_
      have e : 0 ≤ W ((W ((W (v.1 * 65536)) + (W (u.1 * 256)))) + t.1) := by
        obtain ⟨⟨a1, a2⟩, _⟩ := hv
        obtain ⟨⟨b1, b2⟩, _⟩ := hu
        obtain ⟨⟨c1, c2⟩, _⟩ := ht
        rw [W_id (x := v.1 * 65536) (by omega) (by omega), W_id (x := u.1 * 256) (by omega) (by omega), W_id (x := v.1 * 65536 + u.1 * 256) (by omega) (by omega), W_id (by omega) (by omega)]; omega
      have := tmod_bd e (show 0 < n by omega)
      exact ⟨⟨this.1, fun _ => this.2, fun h => by omega⟩, ht.2⟩
theorem l1Once_ex {s : Cur} (h : SI s) (n : Int) : Ex (fun k => spec_l1Once.f k s n) (fun b => SI b.2) := by
  unfold spec_l1Once.f
  exact Ex.bind (l1Below_ex h n) fun v hv => Ex.now hv.2
theorem l1Int_ex {s : Cur} (h : SI s) {l : List Int} (hl : 0 < l.length) : Ex (fun k => spec_l1Int.f k s l) (fun b => b.1 ∈ l ∧ SI b.2) := by
  unfold spec_l1Int.f
  refine Ex.bind (l1Below_ex h _) fun v hv => ?_
  obtain ⟨⟨h0, h1, _⟩, h2⟩ := hv
  have h1 := h1 (by omega)
  simp only [if_pos h0, if_pos h1]
  refine Ex.now ⟨?_, h2⟩
  obtain ⟨m, hm⟩ : ∃ m : Nat, v.1 = (m : Int) := ⟨v.1.toNat, by omega⟩
  show rd l v.1 ∈ l
  rw [hm, rd_get (by omega)]
  exact List.getElem_mem _
theorem l1New_ex {a : List Int} (h : a.length ≤ 1099511627776) : Ex (fun k => spec_l1New.f k a) (fun b => SI b) := by
  have loop : ∀ (d i : Nat) (x3 : Int), 4000 - i = d → Lx (fun k n => spec_l1New.l3 k n a x3 (i : Int)) (fun b => b.1.1 = a) := by
    intro d
    induction d with
    | zero =>
      intro i x3 hd
      refine Lx.step (g := fun k n => spec_l1New.s3 k (spec_l1New.l3 k n) a x3 (i : Int)) (Lx.now (v := ((a, x3, ()), ())) (fun k n => ?_) rfl) (fun _ _ => rfl)
      simp only [spec_l1New.s3, decide_eq_true_eq]
      by_cases c : (i : Int) < (a.length : Int)
      · rw [if_pos c, if_neg (by omega)]
      · rw [if_neg c]
    | succ d ih =>
      intro i x3 hd
      refine Lx.step (g := fun k n => spec_l1New.s3 k (spec_l1New.l3 k n) a x3 (i : Int)) ?_ (fun _ _ => rfl)
      by_cases c : (i : Int) < (a.length : Int)
      · refine (ih (i + 1) (andW (W ((W ((W (x3 * 137)) + (W (rd a (i : Int))))) + 11)) 1073741823) (by omega)).congr fun k n => ?_
        simp only [spec_l1New.s3, decide_eq_true_eq]
        rw [if_pos c, if_pos (by omega), if_pos (by omega), if_pos c, W_id (x := (i : Int) + 1) (by omega) (by omega)]
        rfl
      · refine Lx.now (v := ((a, x3, ()), ())) (fun k n => ?_) rfl
        simp only [spec_l1New.s3, decide_eq_true_eq]
        rw [if_neg c]
  unfold spec_l1New.f
  refine Ex.bind (loop 4000 0 (W (142142 + (a.length : Int))) rfl).ex fun v hv => Ex.now ?_
  exact ⟨Int.le_refl _, by show v.1.1.length ≤ _; rw [hv]; exact h⟩
theorem l3Coef_ex {s : Cur} (h : SI s) : Ex (fun k => spec_l3Coef.f k s) (fun b => (-5 ≤ b.1 ∧ b.1 ≤ 5) ∧ SI b.2) := by
  unfold spec_l3Coef.f
  refine Ex.bind (l1Below_ex h 11) fun v hv => ?_
  obtain ⟨⟨h0, h1, _⟩, h2⟩ := hv
  have h1 := h1 (by omega)
  refine Ex.bind (l1Int_ex h2 (by simp)) fun u hu => Ex.now ⟨?_, hu.2⟩
  have hw : W (v.1 - 5) = v.1 - 5 := W_id (by omega) (by omega)
  have := hu.1
  simp only [hw, List.mem_cons, List.not_mem_nil, or_false] at this
  show -5 ≤ u.1 ∧ u.1 ≤ 5
  omega

/-! ### planes -/
theorem pv_abs (x : Int) (G : Nat) : (pv x G).natAbs = x.natAbs / G := by
  unfold pv; generalize x.natAbs / G = z; split <;> omega
theorem g4_dvd (a b c d : Int) : (g4 a b c d ∣ a.natAbs ∧ g4 a b c d ∣ b.natAbs) ∧ g4 a b c d ∣ c.natAbs ∧ g4 a b c d ∣ d.natAbs := by
  have k1 : g4 a b c d ∣ Nat.gcd (Nat.gcd (Nat.gcd 0 a.natAbs) b.natAbs) c.natAbs := Nat.gcd_dvd_left _ _
  have k2 := Nat.dvd_trans k1 (Nat.gcd_dvd_left _ _)
  exact ⟨⟨Nat.dvd_trans (Nat.dvd_trans k2 (Nat.gcd_dvd_left _ _)) (Nat.gcd_dvd_right _ _), Nat.dvd_trans k2 (Nat.gcd_dvd_right _ _)⟩, Nat.dvd_trans k1 (Nat.gcd_dvd_right _ _), Nat.gcd_dvd_right _ _⟩
theorem g4_eq (a b c d : Int) : g4 a b c d = Nat.gcd (Nat.gcd a.natAbs b.natAbs) (Nat.gcd c.natAbs d.natAbs) := by
  unfold g4
  rw [Nat.gcd_zero_left, ← Nat.gcd_assoc (Nat.gcd a.natAbs b.natAbs)]
theorem g4_pos {a b c d : Int} (hz : ¬(a = 0 ∧ b = 0 ∧ c = 0)) : 0 < g4 a b c d := by
  refine Nat.pos_of_ne_zero (fun e => hz ?_)
  have e1 := Nat.eq_zero_of_gcd_eq_zero_left e
  have e2 := Nat.eq_zero_of_gcd_eq_zero_left e1
  have e3 := Nat.eq_zero_of_gcd_eq_zero_left e2
  have f1 := Nat.eq_zero_of_gcd_eq_zero_right e1
  have f2 := Nat.eq_zero_of_gcd_eq_zero_right e2
  have f3 := Nat.eq_zero_of_gcd_eq_zero_right e3
  omega
theorem primV_ok {a b c d : Int} (hz : ¬(a = 0 ∧ b = 0 ∧ c = 0)) (h : (primV a b c d (g4 a b c d)).2.1 = 0) : okp (primV a b c d (g4 a b c d)).1 = true := by
  unfold primV at h ⊢
  split at h
  · rename_i hc
    rw [if_pos hc, okp_iff]
    have hp := g4_pos hz (d := d)
    obtain ⟨⟨da, db⟩, dc, dd⟩ := g4_dvd a b c d
    have hg := g4_eq a b c d
    obtain ⟨i1, i2, i3, i4⟩ := hc
    have key : Nat.gcd (Nat.gcd (a.natAbs / g4 a b c d) (b.natAbs / g4 a b c d)) (Nat.gcd (c.natAbs / g4 a b c d) (d.natAbs / g4 a b c d)) = 1 := by
      rw [Nat.gcd_div da db, Nat.gcd_div dc dd, Nat.gcd_div (Nat.dvd_gcd da db) (Nat.dvd_gcd dc dd), ← hg, Nat.div_self hp]
    refine ⟨i1, i2, i3, i4, ?_, ?_⟩
    · show pv a (g4 a b c d) ≠ 0 ∨ pv b (g4 a b c d) ≠ 0 ∨ pv c (g4 a b c d) ≠ 0
      have nz : ∀ x : Int, g4 a b c d ∣ x.natAbs → x ≠ 0 → pv x (g4 a b c d) ≠ 0 := fun x hx h0 e => by
        have h1 := pv_abs x (g4 a b c d)
        rw [e] at h1
        have h2 := Nat.div_mul_cancel hx
        rw [← h1] at h2
        simp at h2; omega
      by_cases ha : a = 0
      · by_cases hb : b = 0
        · exact .inr (.inr (nz c dc fun h => hz ⟨ha, hb, h⟩))
        · exact .inr (.inl (nz b db hb))
      · exact .inl (nz a da ha)
    · simp only [pv_abs]; exact key
  · cases h
def sm (x : Int) : Prop := x.natAbs < 1000000000000
theorem Primitive_ex {a b c d : Int} (ha : sm a) (hb : sm b) (hc : sm c) (hd : sm d) : Ex (fun k => spec_Primitive.f k a b c d) (fun r => r.2.1 = 0 → okp r.1 = true) := by
  by_cases hz : a = 0 ∧ b = 0 ∧ c = 0
  · obtain ⟨rfl, rfl, rfl⟩ := hz
    refine ⟨(⟨0, 0, 0, 0⟩, 1, ()), .now fun k => ?_, fun h => by cases h⟩
    simp [spec_Primitive.f]
  · exact (Primitive_ev ha hb hc hd hz).ex (primV_ok hz)
theorem ok_dflt : okp ⟨0, 0, 1, -1⟩ = true := by rw [okp_iff]; decide
theorem prim_end {s : Cur} (hs : SI s) {a b c d : Int} (ha : sm a) (hb : sm b) (hc : sm c) (hd : sm d) : Ex (fun k => (spec_Primitive.f k a b c d).bind fun t => if (t.2.1 != 0) = true then (some ((⟨0, 0, 1, (-1)⟩ : S4), (s.1, s.2.1, s.2.2.1, ()))) else (some (t.1, (s.1, s.2.1, s.2.2.1, ())))) (fun b => okp b.1 = true ∧ SI b.2) := by
  refine Ex.bind (Primitive_ex ha hb hc hd) fun t ht => ?_
  by_cases h0 : t.2.1 = 0
  · have : ¬ ((t.2.1 != 0) = true) := by simp [h0]
    simp only [if_neg this]
    exact Ex.now ⟨ht h0, hs⟩
  · have : (t.2.1 != 0) = true := by simp [h0]
    simp only [if_pos this]
    exact Ex.now ⟨ok_dflt, hs⟩
theorem sm_of {x : Int} (h : -1000 ≤ x ∧ x ≤ 1000) : sm x := by unfold sm; omega
theorem l3D_ex {s : Cur} (h : SI s) {g : Nat → Int → Cur → Option (S4 × Cur)} (hg : ∀ (x : Int) (t : Cur), (-500 ≤ x ∧ x ≤ 500) → SI t → Ex (fun k => g k x t) (fun b => okp b.1 = true ∧ SI b.2)) :
    Ex (fun k => (spec_l1Below.f k s 25).bind fun t7 => (spec_l1Int.f k (t7.2.1, t7.2.2.1, t7.2.2.2.1, ()) ([0, 1, (-1), 2, (-4), (W (t7.1 - 12)), 500, (-500)] : List Int)).bind fun t8 => g k t8.1 t8.2) (fun b => okp b.1 = true ∧ SI b.2) := by
  refine Ex.bind (l1Below_ex h 25) fun v hv => ?_
  obtain ⟨⟨h0, h1, _⟩, h2⟩ := hv
  have h1 := h1 (by omega)
  refine Ex.bind (l1Int_ex h2 (by simp)) fun u hu => ?_
  have hw : W (v.1 - 12) = v.1 - 12 := W_id (by omega) (by omega)
  have := hu.1
  simp only [hw, List.mem_cons, List.not_mem_nil, or_false] at this
  exact hg _ _ (by omega) hu.2
theorem l3Draw_ex {s : Cur} (h : SI s) : Ex (fun k => spec_l3Draw.f k s) (fun b => okp b.1 = true ∧ SI b.2) := by
  unfold spec_l3Draw.f
  refine Ex.bind (l3Coef_ex h) fun t1 h1 => ?_
  refine Ex.bind (l3Coef_ex h1.2) fun t2 h2 => ?_
  refine Ex.bind (l3Coef_ex h2.2) fun t3 h3 => ?_
  refine Ex.bind (l1Once_ex h3.2 2) fun t4 h4 => ?_
  have s0 : sm 0 := sm_of (by omega)
  by_cases c : t4.1 = true
  · simp only [if_pos c]
    refine Ex.bind (l1Int_ex h4 (by simp)) fun t5 h5 => ?_
    have s5 : sm t5.1 := by
      have := h5.1
      simp only [List.mem_cons, List.not_mem_nil, or_false] at this
      exact sm_of (by omega)
    refine Ex.bind (l1Once_ex h5.2 2) fun t6 h6 => ?_
    by_cases c6 : t6.1 = true
    · simp only [if_pos c6]
      exact l3D_ex h6 (g := fun k x t => (spec_Primitive.f k 0 t5.1 0 x).bind fun t9 => if (t9.2.1 != 0) = true then (some ((⟨0, 0, 1, (-1)⟩ : S4), (t.1, t.2.1, t.2.2.1, ()))) else (some (t9.1, (t.1, t.2.1, t.2.2.1, ())))) fun x t hx ht => prim_end ht s0 s5 s0 (sm_of (by omega))
    · simp only [if_neg c6]
      refine Ex.bind (l1Once_ex h6 2) fun t10 h10 => ?_
      by_cases c10 : t10.1 = true
      · simp only [if_pos c10]
        exact l3D_ex h10 (g := fun k x t => (spec_Primitive.f k 0 0 t5.1 x).bind fun t9 => if (t9.2.1 != 0) = true then (some ((⟨0, 0, 1, (-1)⟩ : S4), (t.1, t.2.1, t.2.2.1, ()))) else (some (t9.1, (t.1, t.2.1, t.2.2.1, ())))) fun x t hx ht => prim_end ht s0 s0 s5 (sm_of (by omega))
      · simp only [if_neg c10]
        exact l3D_ex h10 (g := fun k x t => (spec_Primitive.f k t5.1 0 0 x).bind fun t9 => if (t9.2.1 != 0) = true then (some ((⟨0, 0, 1, (-1)⟩ : S4), (t.1, t.2.1, t.2.2.1, ()))) else (some (t9.1, (t.1, t.2.1, t.2.2.1, ())))) fun x t hx ht => prim_end ht s5 s0 s0 (sm_of (by omega))
  · simp only [if_neg c]
    have r1 := h1.1; have r2 := h2.1; have r3 := h3.1
    exact l3D_ex h4 (g := fun k x t => (spec_Primitive.f k t1.1 t2.1 t3.1 x).bind fun t9 => if (t9.2.1 != 0) = true then (some ((⟨0, 0, 1, (-1)⟩ : S4), (t.1, t.2.1, t.2.2.1, ()))) else (some (t9.1, (t.1, t.2.1, t.2.2.1, ())))) fun x t hx ht => prim_end ht (sm_of (by omega)) (sm_of (by omega)) (sm_of (by omega)) (sm_of (by omega))
theorem l3DrawAny_ex {s : Cur} (h : SI s) : Ex (fun k => spec_l3DrawAny.f k s) (fun b => SI b.2) := by
  unfold spec_l3DrawAny.f
  refine Ex.bind (l3Draw_ex h) fun t1 h1 => ?_
  refine Ex.bind (l1Below_ex h1.2 20) fun t2 h2 => ?_
  by_cases c0 : (t2.1 == 0) = true
  · simp only [if_pos c0]
    exact Ex.bind (l1Int_ex h2.2 (by simp)) fun t3 h3 => Ex.now h3.2
  · simp only [if_neg c0]
    by_cases c1 : (t2.1 == 1) = true
    · simp only [if_pos c1]
      exact Ex.bind (l1Int_ex h2.2 (by simp)) fun t3 h3 => Ex.now h3.2
    · simp only [if_neg c1]
      by_cases c2 : (t2.1 == 2) = true
      · simp only [if_pos c2]; exact Ex.now h2.2
      · simp only [if_neg c2]
        by_cases c3 : (t2.1 == 3) = true
        · simp only [if_pos c3]; exact Ex.now h2.2
        · simp only [if_neg c3]; exact Ex.now h2.2

end Go.Proofs.YtalkkenkeilmpaaGreatDoor.Q
