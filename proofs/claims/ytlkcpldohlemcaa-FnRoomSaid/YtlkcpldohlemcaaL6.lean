/- FnRoom. -/
import Derived.Test.YtlkcpldohlemcaaN9
import Derived.Test.YtlkcpldohlemcaaL5
namespace Go.Proofs.Ytlkcpldohlemcaa.Q
open Go Go.RowKit Go.Proofs Go.Proofs.Ytlkcpldohlemcaa.Ev Go.Proofs.Ytlkcpldohlemcaa.G
set_option linter.unusedSimpArgs false
set_option linter.unusedVariables false

theorem room_l14 {L : List S4} (hl : L.length ≤ 100) {s : S4} : ∀ (d i : Nat) (x : Bool), L.length - i = d → i ≤ L.length → Lv (fun k n => laws_FnRoom.l14 k n L x (i : Int) s) ((L, (x && (L.drop i).all fun p => sideV p s == 1), ()), ()) := by
  intro d
  induction d with
  | zero =>
    intro i x hd hi
    refine Lv.step (g := fun k n => laws_FnRoom.s14 k (laws_FnRoom.l14 k n) L x (i : Int) s) ?_ (fun _ _ => rfl)
    simp only [laws_FnRoom.s14, decide_eq_true_eq, if_neg (show ¬ (i : Int) < (L.length : Int) by omega)]
    rw [List.drop_eq_nil_of_le (by omega)]
    simp only [List.all_nil, Bool.and_true]
    exact .now fun _ _ => rfl
  | succ d ih =>
    intro i x hd hi
    have hi' : i < L.length := by omega
    have w : W ((i : Int) + 1) = ((i + 1 : Nat) : Int) := by rw [W_id (by omega) (by omega)]; omega
    refine Lv.step (g := fun k n => laws_FnRoom.s14 k (laws_FnRoom.l14 k n) L x (i : Int) s) ?_ (fun _ _ => rfl)
    simp only [laws_FnRoom.s14, decide_eq_true_eq, if_pos (show (i : Int) < (L.length : Int) by omega), if_pos (Int.natCast_nonneg _), w]
    rw [all_drop hi']
    cases x with
    | false =>
      simp only [Bool.false_eq_true, if_false, Bool.false_and]
      have := ih (i + 1) false (by omega) (by omega)
      simp only [Bool.false_and] at this
      exact this
    | true =>
      simp only [if_true, Bool.true_and]
      exact Lv.bind (spec_SideAt_ev _ _) (ih (i + 1) _ (by omega) (by omega))
theorem iWith_ev {L : List S4} {p : S4} (hl : L.length ≤ 100) : Ev (fun k => impl_OpenWith.f k L p) (opV (L ++ [p])) := by
  simp only [impl_OpenWith.f, with_f _ (show L.length ≤ 2097152 by omega), Option.bind_some]
  exact (iOpen_ev (by simp; omega)).bind (.now fun _ => rfl)
theorem sWith_ev {L : List S4} {p : S4} (hl : L.length ≤ 100) : Ev (fun k => spec_OpenWith.f k L p) (opV (L ++ [p])) := by
  have l1 : lt47 (([] : List S4).length + L.length) = true := lt47_of (by simp; omega)
  have l2 : lt47 (([] ++ L : List S4).length + ([p] : List S4).length) = true := lt47_of (by simp; omega)
  simp only [spec_OpenWith.f, if_pos l1, if_pos l2]
  exact (sOpen_ev (by simp; omega)).bind (.now fun _ => rfl)
/-- a plane the other way round, where it is right -/
def fl (p : S4) : S4 := if okp p = true then flp p else p
theorem Flip_ev (p : S4) : Ev (fun k => impl_Flip.f k p) (fl p) := by
  simp only [impl_Flip.f]
  refine (impl_PlaneOk_ev p).bind ?_
  unfold fl
  cases h : okp p with
  | false => exact .now fun _ => rfl
  | true => simp only [Bool.not_true, Bool.false_eq_true, if_false, if_true, flip_f _ (okp_bd4 h)]; exact .now fun _ => rfl
theorem sFlip_ev (p : S4) : Ev (fun k => spec_Flip.f k p) (fl p) := by
  simp only [spec_Flip.f]
  refine (spec_PlaneOk_ev p).bind ?_
  unfold fl
  cases h : okp p with
  | false => exact .now fun _ => rfl
  | true => simp only [Bool.not_true, Bool.false_eq_true, if_false, if_true, l3Flip_f _ (okp_bd4 h)]; exact .now fun _ => rfl
def splV (L : List S4) (p : S4) : Bool := opV (L ++ [p]) && opV (L ++ [fl p])
theorem iSplits_ev {L : List S4} {p : S4} (hl : L.length ≤ 100) : Ev (fun k => impl_Splits.f k L p) (splV L p) := by
  simp only [impl_Splits.f]
  unfold splV
  refine (iWith_ev hl).bind ?_
  cases opV (L ++ [p]) with
  | false => exact .now fun _ => rfl
  | true =>
    simp only [if_true, Bool.true_and]
    exact (Flip_ev p).bind ((iWith_ev hl).bind (.now fun _ => rfl))
theorem sSplits_ev {L : List S4} {p : S4} (hl : L.length ≤ 100) : Ev (fun k => spec_Splits.f k L p) (splV L p) := by
  simp only [spec_Splits.f]
  unfold splV
  refine (sWith_ev hl).bind ?_
  cases opV (L ++ [p]) with
  | false => exact .now fun _ => rfl
  | true =>
    simp only [if_true, Bool.true_and]
    exact (sFlip_ev p).bind ((sWith_ev hl).bind (.now fun _ => rfl))
theorem point_opV {L : List S4} {s : S4} (hl : L.length ≤ 24) (h : (L.all fun p => sideV p s == 1) = true) : opV L = true := by
  have hp : ∀ p ∈ L, okp p = true ∧ spk s = true ∧ 0 < sv p s := fun p hp => by
    have := List.all_eq_true.1 h p hp
    rw [beq_iff_eq] at this
    unfold sideV at this
    split at this
    case isFalse => cases this
    rename_i c
    rw [sd_sv c.1 c.2] at this
    exact ⟨c.1, c.2, sgn_one.1 this⟩
  unfold opV
  rw [Bool.and_eq_true, Bool.and_eq_true]
  refine ⟨⟨List.all_eq_true.2 fun p h => (hp p h).1, decide_eq_true hl⟩, ?_⟩
  cases L with
  | nil => rfl
  | cons q L =>
    have hs := (hp q (by simp)).2.1
    unfold spk at hs
    rw [Bool.and_eq_true, decide_eq_true_eq] at hs
    exact point_opn (fun p h => (hp p h).1) (s := s) (by omega) fun p h => (hp p h).2.2
theorem room_pl {L : List S4} {p : S4} (h : opV L = true) (hp : okp p = true) (hl : L.length < 24) (h1 : opV (L ++ [p]) = false) (h2 : opV (L ++ [fl p]) = false) : False := by
  unfold opV at h h1 h2
  rw [Bool.and_eq_true, Bool.and_eq_true] at h
  obtain ⟨⟨ha, _⟩, ho⟩ := h
  have hL : ∀ q ∈ L, okp q = true := fun q hq => List.all_eq_true.1 ha q hq
  have a1 : (L ++ [p]).all okp = true := List.all_eq_true.2 (all_snoc hL hp)
  have e : fl p = flp p := if_pos hp
  rw [e] at h2
  have a2 : (L ++ [flp p]).all okp = true := List.all_eq_true.2 (all_snoc hL (flp_ok hp))
  have l1 : decide ((L ++ [p]).length ≤ 24) = true := decide_eq_true (by simp; omega)
  have l2 : decide ((L ++ [flp p]).length ≤ 24) = true := decide_eq_true (by simp; omega)
  rw [a1, l1, Bool.true_and, Bool.true_and] at h1
  rw [a2, l2, Bool.true_and, Bool.true_and] at h2
  exact room_one hL hp ho h1 h2
theorem room_tail {a : List Int} (h : a.length ≤ 1048576) (hb : ∀ x ∈ a, 0 ≤ x ∧ x ≤ 255) {L : List S4} (hl : L.length ≤ 50) : Ex (fun k => (laws_at.f k a 2).bind fun t10 => if 11 = 0 then none else ((laws_at.f k a 3).bind fun t11 => if 11 = 0 then none else ((laws_at.f k a 4).bind fun t12 => if 11 = 0 then none else ((laws_at.f k a 5).bind fun t13 => if 2 = 0 then none else ((spec_SpotOf.f k (W ((t10.tmod 11) - 5)) (W ((t11.tmod 11) - 5)) (W ((t12.tmod 11) - 5)) (W (1 + (t13.tmod 2)))).bind fun t14 => (laws_FnRoom.l14 k k L (decide ((L.length : Int) ≤ 24)) 0 t14.1).bind fun x16 => if (!x16.1.2.1) = true then (some true) else ((impl_Open.f k x16.1.1).bind fun t17 => some t17)))))) (fun r => r = true) := by
  have z1 : ¬ ((11 : Nat) = 0) := by decide
  have z2 : ¬ ((2 : Nat) = 0) := by decide
  simp only [if_neg z1, if_neg z2]
  refine Ex.bind (at_ex h hb 2 (by omega)) fun t1 h1 => ?_
  refine Ex.bind (at_ex h hb 3 (by omega)) fun t2 h2 => ?_
  refine Ex.bind (at_ex h hb 4 (by omega)) fun t3 h3 => ?_
  refine Ex.bind (at_ex h hb 5 (by omega)) fun t4 h4 => ?_
  refine Ex.bind (drawn_spot (by omega) (by omega) h1 h2 h3 h4) fun t5 h5 => ?_
  refine Ex.bind ((room_l14 (by omega) L.length 0 _ rfl (by omega)).ev.ex rfl) fun t6 h6 => ?_
  subst h6
  simp only [List.drop_zero]
  cases hc : (decide ((L.length : Int) ≤ 24) && L.all fun p => sideV p t5.1 == 1) with
  | false => exact Ex.now rfl
  | true =>
    simp only [Bool.not_true, Bool.false_eq_true, if_false]
    rw [Bool.and_eq_true, decide_eq_true_eq] at hc
    have := point_opV (by omega) hc.2
    refine Ex.bind ((iOpen_ev (L := L) (by omega)).ex rfl) fun t7 h7 => ?_
    rw [this] at h7
    exact Ex.now h7.symm
theorem FnRoom_pure {a : List Int} (ha : a.length ≤ 9223372036854775807 ∧ ∀ x ∈ a, 0 ≤ x ∧ x ≤ 255) : ∃ k, laws_FnRoom.f k a = some true := by
  have key : Ex (fun k => laws_FnRoom.f k a) (fun r => r = true) := by
    unfold laws_FnRoom.f
    refine Ex.bind ((big_ev a).ex rfl) fun t1 h1 => ?_
    subst h1
    simp only [decide_eq_true_eq]
    by_cases hb : (a.length : Int) > 1048576
    · simp only [if_pos hb]; exact Ex.now rfl
    simp only [if_neg hb]
    refine Ex.bind (DrawSplits_ex (a := a) (by omega)) fun t2 hl => ?_
    have T := room_tail (a := a) (L := t2.1) (by omega) ha.2 hl
    refine Ex.bind ((iSplits_ev (L := t2.1) (p := t2.2.1) (by omega)).ex rfl) fun t3 h3 => ?_
    refine Ex.bind ((iWith_ev (L := t2.1) (p := t2.2.1) (by omega)).ex rfl) fun t4 h4 => ?_
    refine Ex.bind ((Flip_ev t2.2.1).ex rfl) fun t5 h5 => ?_
    refine Ex.bind ((iWith_ev (L := t2.1) (p := t5) (by omega)).ex rfl) fun t6 h6 => ?_
    have h5' : t5 = fl t2.2.1 := h5.symm
    subst h5'
    have e : t3 = (t4 && t6) := by rw [← h3, ← h4, ← h6]; rfl
    have S := (sSplits_ev (L := t2.1) (p := t2.2.1) (by omega)).ex (R := fun r => r = t3) h3
    have O := (sOpen_ev (L := t2.1) (by omega)).ex (R := fun r => opV t2.1 = r) rfl
    have Q := (spec_PlaneOk_ev t2.2.1).ex (R := fun r => okp t2.2.1 = r) rfl
    have no : t4 = false → t6 = false → opV t2.1 = true → okp t2.2.1 = true → ¬ ((t2.1.length : Int) < 24) := fun z4 z6 h8 h9 hlt => room_pl h8 h9 (by omega) (by rw [h4]; exact z4) (by rw [h6]; exact z6)
    subst e
    cases t4 <;> cases t6
    all_goals
      simp only [Bool.true_and, Bool.false_and, Bool.false_eq_true, if_false, if_true, beq_self_eq_true, Bool.not_true, Bool.not_false]
      refine Ex.bind S fun t7 h7 => ?_
      subst h7
      simp only [Bool.true_and, Bool.false_and, Bool.false_eq_true, if_false, if_true, beq_self_eq_true, Bool.not_true, Bool.not_false]
      refine Ex.bind O fun t8 h8 => ?_
      cases t8
      case false => simp only [Bool.false_eq_true, if_false]; exact T
      simp only [if_true]
      refine Ex.bind Q fun t9 h9 => ?_
      cases t9
      case false => simp only [Bool.false_eq_true, if_false]; exact T
      simp only [if_true]
      by_cases hlt : (t2.1.length : Int) < 24
      · first
        | exact absurd hlt (no rfl rfl h8 h9)
        | simp only [if_pos hlt]; exact T
      · simp only [if_neg hlt]; exact T
  obtain ⟨v, ⟨K, h⟩, rfl⟩ := key
  exact ⟨K, h K (Nat.le_refl _)⟩
end Go.Proofs.Ytlkcpldohlemcaa.Q
