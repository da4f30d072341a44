/- FnPlaneTexts: a drawn plane comes back of its text; of two one is less, or they are the same. -/
import Derived.Test.YtalkkenkeilmpaaGreatDoorT6a
namespace Go.Proofs.YtalkkenkeilmpaaGreatDoor.Q
open Go Go.RowKit Go.Proofs Go.Proofs.YtalkkenkeilmpaaGreatDoor.Ev Go.Proofs.YtalkkenkeilmpaaGreatDoor.G
set_option linter.unusedSimpArgs false
set_option linter.unusedVariables false

theorem DrawCmpPlane_ex {a : List Int} (h : a.length ≤ 1099511627776) : Ex (fun k => spec_DrawCmpPlane.f k a) (fun _ => True) := by
  unfold spec_DrawCmpPlane.f
  refine Ex.bind (l1New_ex h) fun t1 h1 => ?_
  refine Ex.bind (l3DrawAny_ex h1) fun t2 h2 => ?_
  refine Ex.bind (l1Once_ex h2 4) fun t3 h3 => ?_
  by_cases c : t3.1 = true
  · simp only [if_pos c]; exact Ex.now trivial
  · simp only [if_neg c]
    exact Ex.bind (l3DrawAny_ex h3) fun t4 h4 => Ex.now trivial

/-! ### the order of planes -/
def cI (x y : Int) : Int := if x < y then -1 else if x > y then 1 else 0
theorem cI_0 {x y : Int} : cI x y = 0 ↔ x = y := by unfold cI; split <;> (try split) <;> omega
theorem cI_neg (x y : Int) : cI x y = -cI y x := by unfold cI; split <;> (try split) <;> (try split) <;> (try split) <;> omega
theorem cI_bd (x y : Int) : -1 ≤ cI x y ∧ cI x y ≤ 1 := by unfold cI; split <;> (try split) <;> omega
theorem cmp_f (k : Nat) (x y : Int) : cmp_Compare_int.f k x y = some (cI x y) := by
  unfold cmp_Compare_int.f cmp_isNaN_int.f cI
  simp only [Option.bind_some, bne_self_eq_false, Bool.false_eq_true, if_false, decide_eq_true_eq]
  split
  · rfl
  · split <;> rfl
def cor : List Int → Int
  | [] => 0
  | x :: r => if x ≠ 0 then x else cor r
theorem or_l3 (k : Nat) (l : List Int) (hl : l.length ≤ 100) : ∀ (d i n : Nat), l.length - i = d → i ≤ l.length → d < n → (cmp_Or_int.l3 k n 0 l (l.length : Int) (i : Int)).bind (fun | .inl r1 => (some r1.1.1) | .inr x2 => (some x2.1.1)) = some (cor (l.drop i)) := by
  intro d
  induction d with
  | zero =>
    intro i n hd hi hn
    obtain ⟨m, rfl⟩ : ∃ m, n = m + 1 := ⟨n - 1, by omega⟩
    rw [List.drop_eq_nil_of_le (by omega)]
    simp only [cmp_Or_int.l3, cmp_Or_int.s3, decide_eq_true_eq, if_neg (show ¬ (i : Int) < (l.length : Int) by omega)]
    rfl
  | succ d ih =>
    intro i n hd hi hn
    obtain ⟨m, rfl⟩ : ∃ m, n = m + 1 := ⟨n - 1, by omega⟩
    have hi' : i < l.length := by omega
    have w : W ((i : Int) + 1) = ((i + 1 : Nat) : Int) := by
      unfold W; rw [IntKind.wrap_i64]; omega
    have e : rd l (i : Int) = l[i] := by simp [rd, List.getD_eq_getElem?_getD, hi']
    rw [← List.getElem_cons_drop hi']
    simp only [cmp_Or_int.l3, cmp_Or_int.s3, decide_eq_true_eq, if_pos (show (i : Int) < (l.length : Int) by omega), if_pos (Int.natCast_nonneg _), e, w, cor]
    by_cases c : l[i] = 0
    · rw [if_neg (by simp [c]), if_neg (by simp [c])]
      exact ih (i + 1) m (by omega) (by omega) (by omega)
    · rw [if_pos (by simpa using c), if_pos c]; rfl
def cfPlane (x y : S4) : Int := cor [cI x.a y.a, cI x.b y.b, cI x.c y.c, cI x.d y.d]
theorem iCmp_ev (x y : S4) : Ev (fun k => impl_CmpPlane.f k x y) (cfPlane x y) := by
  refine ⟨10, fun k hk => ?_⟩
  have e : cmp_Or_int.f k [cI x.a y.a, cI x.b y.b, cI x.c y.c, cI x.d y.d] = some (cfPlane x y) := by
    have := or_l3 k [cI x.a y.a, cI x.b y.b, cI x.c y.c, cI x.d y.d] (by simp) 4 0 k (by simp) (by simp) (by omega)
    rw [List.drop_zero] at this
    exact this
  simp only [impl_CmpPlane.f, cmp_f, Option.bind_some, e]
theorem cf_neg (x y : S4) : cfPlane x y = -cfPlane y x := by
  unfold cfPlane
  rw [cI_neg x.a, cI_neg x.b, cI_neg x.c, cI_neg x.d]
  generalize cI y.a x.a = a; generalize cI y.b x.b = b; generalize cI y.c x.c = c; generalize cI y.d x.d = d
  simp only [cor]
  split <;> split <;> (try split) <;> (try split) <;> (try split) <;> (try split) <;> (try split) <;> (try split) <;> omega
theorem cf_bd (x y : S4) : -1 ≤ cfPlane x y ∧ cfPlane x y ≤ 1 := by
  unfold cfPlane
  have h1 := cI_bd x.a y.a; have h2 := cI_bd x.b y.b; have h3 := cI_bd x.c y.c; have h4 := cI_bd x.d y.d
  simp only [cor]
  split
  · exact h1
  · split
    · exact h2
    · split
      · exact h3
      · split
        · exact h4
        · omega
theorem cf_0 (x y : S4) : (cfPlane x y == 0) = ((x.a == y.a) && ((x.b == y.b) && ((x.c == y.c) && (x.d == y.d)))) := by
  rw [Bool.eq_iff_iff]
  simp only [beq_iff_eq, Bool.and_eq_true]
  unfold cfPlane
  have h1 := @cI_0 x.a y.a; have h2 := @cI_0 x.b y.b; have h3 := @cI_0 x.c y.c; have h4 := @cI_0 x.d y.d
  rw [← h1, ← h2, ← h3, ← h4]
  generalize cI x.a y.a = a; generalize cI x.b y.b = b; generalize cI x.c y.c = c; generalize cI x.d y.d = d
  simp only [cor]
  split
  · omega
  · split
    · omega
    · split
      · omega
      · split <;> omega

/-! ### the text of a plane read again -/
theorem no32 {n : Int} : ∀ c ∈ Lib.itoa n, c ≠ 32 := by
  have hd : ∀ c ∈ Lib.decDigits n.natAbs, c ≠ 32 := fun c hc => by
    have h := List.all_eq_true.1 (dec_all n.natAbs) c hc
    simp only [isDb, decide_eq_true_eq] at h
    intro e; subst e
    have : (32 : UInt8).toNat = 32 := rfl
    omega
  by_cases h : n < 0
  · rw [itoa_neg' h]
    intro c hc
    rcases List.mem_cons.1 hc with rfl | hc
    · decide
    · exact hd c hc
  · rw [itoa_pos h]; exact hd
theorem spl_txt (p : S4) : spl (txt p) = [Lib.itoa p.a, Lib.itoa p.b, Lib.itoa p.c, Lib.itoa p.d] := by
  have e : txt p = Lib.itoa p.a ++ 32 :: (Lib.itoa p.b ++ 32 :: (Lib.itoa p.c ++ 32 :: Lib.itoa p.d)) := by simp [txt]
  rw [e, spl_pre _ no32, spl_pre _ no32, spl_pre _ no32, spl_all _ no32]
theorem okp_bd {p : S4} (h : okp p = true) : p.a.natAbs ≤ 999999999 ∧ p.b.natAbs ≤ 999999999 ∧ p.c.natAbs ≤ 999999999 ∧ p.d.natAbs ≤ 999999999 := by
  simp only [okp, decide_eq_true_eq] at h; unfold PlOk at h; omega
theorem ppV_txt {p : S4} (h : okp p = true) : ppV (txt p) = (p, true, ()) := by
  obtain ⟨h1, h2, h3, h4⟩ := okp_bd h
  unfold ppV
  rw [spl_txt]
  simp only [pl4, numW_itoa h1, numW_itoa h2, numW_itoa h3, numW_itoa h4]
  show (if okp p = true then (p, true, ()) else (z4', false, ())) = _
  rw [if_pos h]
theorem txt_len {p : S4} (h : okp p = true) : (txt p).length ≤ 1048576 := by
  obtain ⟨ha, hb, hc, hd⟩ := pt_bd h
  have la := il ha; have lb := il hb; have lc := il hc; have ld := il hd
  unfold txt
  simp only [List.length_append, List.length_cons, List.length_nil]
  omega
theorem FnPlaneTexts_pure {a : List Int} (_ : a.length ≤ 9223372036854775807 ∧ ∀ x ∈ a, 0 ≤ x ∧ x ≤ 255) : ∃ k, laws_FnPlaneTexts.f k a = some true := by
  have key : Ev (fun k => laws_FnPlaneTexts.f k a) true := by
    unfold laws_FnPlaneTexts.f
    refine Ev.bind (a := decide ((a.length : Int) > 1048576)) (.now fun _ => rfl) ?_
    simp only [decide_eq_true_eq]
    by_cases hb : (a.length : Int) > 1048576
    · simp only [if_pos hb]; exact .now fun _ => rfl
    · simp only [if_neg hb]
      obtain ⟨⟨p, q, u⟩, hd, _⟩ := DrawCmpPlane_ex (a := a) (by omega)
      refine Ev.bind hd ?_
      refine Ev.bind (pt_impl p) ?_
      refine Ev.bind (iCmp_ev p q) ?_
      refine Ev.bind (iCmp_ev q p) ?_
      have bd := cf_bd q p
      have e1 : W (0 - cfPlane q p) = cfPlane p q := by rw [W_id (by omega) (by omega), cf_neg p q]; omega
      simp only [e1, cf_0 p q, bne_self_eq_false, beq_self_eq_true, Bool.not_true, Bool.false_eq_true, if_false]
      refine Ev.bind (spec_PlaneOk_ev p) ?_
      cases ho : okp p with
      | false =>
        have e : pt_txt p = [] := by unfold pt_txt; rw [ho]; rfl
        have e2 : (⟨#[]⟩ : ByteArray) = mkS [] := rfl
        simp only [Bool.not_false, if_true, e, e2, beq_self_eq_true]
        refine (impl_PlaneOk_ev p).bind ?_
        simp only [ho]
        exact .now fun _ => rfl
      | true =>
        have e : pt_txt p = txt p := by unfold pt_txt; rw [ho]; rfl
        simp only [Bool.not_true, Bool.false_eq_true, if_false, e]
        refine (iPP_ev (txt_len ho)).bind ?_
        rw [ppV_txt ho]
        simp only [if_true, beq_self_eq_true, Bool.and_self]
        exact .now fun _ => rfl
  obtain ⟨K, h⟩ := key
  exact ⟨K, h K (Nat.le_refl _)⟩
end Go.Proofs.YtalkkenkeilmpaaGreatDoor.Q
