/- The reference's draws of lists of planes: they end. -/
import Derived.Test.YtlkcpldohlemcaaL3
import Derived.Test.YtlkcpldohlemcaaP9
namespace Go.Proofs.Ytlkcpldohlemcaa.Q
open Go Go.RowKit Go.Proofs Go.Proofs.Ytlkcpldohlemcaa.Ev Go.Proofs.Ytlkcpldohlemcaa.G
set_option linter.unusedSimpArgs false
set_option linter.unusedVariables false

def AllOk (L : List S4) : Prop := ∀ p ∈ L, okp p = true
theorem AllOk.snoc {L : List S4} {p : S4} (h : AllOk L) (hp : okp p = true) : AllOk (L ++ [p]) := fun q hq => by
  rcases List.mem_append.1 hq with hq | hq
  · exact h q hq
  · rw [List.mem_singleton] at hq; subst hq; exact hp
theorem lt47_one {L : List S4} {p : S4} (h : L.length ≤ 1000) : lt47 (L.length + ([p] : List S4).length) = true := lt47_of (by rw [List.length_singleton]; omega)
theorem l4List_l3 : ∀ (n : Nat) (s : Cur) (b : List S4), SI s → AllOk b → n ≤ 100 → b.length + n ≤ 200 → Lx (fun k m => spec_l4List.l3 k m (n : Int) s b) (fun r => SI r.2.1 ∧ AllOk r.2.2.1 ∧ r.2.2.1.length ≤ b.length + n)
  | 0, s, b, hs, hb, _, _ => by
    refine Lx.step (g := fun k m => spec_l4List.s3 k (spec_l4List.l3 k m) ((0 : Nat) : Int) s b) (Lx.now (v := (((), (), ()), (s, b, ()))) (fun k m => ?_) ⟨hs, hb, Nat.le_refl _⟩) (fun _ _ => rfl)
    simp only [spec_l4List.s3, decide_eq_true_eq]
    rw [if_neg (by omega)]
  | n + 1, s, b, hs, hb, hn, hl => by
    have w : W (((n + 1 : Nat) : Int) - 1) = (n : Int) := by rw [W_id (by omega) (by omega)]; omega
    have go : ∀ (t : Cur) (p : S4), SI t → okp p = true → Lx (fun k m => spec_l4List.l3 k m (n : Int) t (b ++ [p])) (fun r => SI r.2.1 ∧ AllOk r.2.2.1 ∧ r.2.2.1.length ≤ b.length + (n + 1)) := fun t p ht hp => by
      obtain ⟨v, hv, h1, h2, h3⟩ := l4List_l3 n t (b ++ [p]) ht (hb.snoc hp) (by omega) (by simp; omega)
      exact ⟨v, hv, h1, h2, by simp at h3; omega⟩
    have hpos : ((n + 1 : Nat) : Int) > 0 := by omega
    have hlt : ∀ p : S4, lt47 (b.length + ([p] : List S4).length) = true := fun p => lt47_one (by omega)
    refine Lx.step (g := fun k m => spec_l4List.s3 k (spec_l4List.l3 k m) ((n + 1 : Nat) : Int) s b) ?_ (fun _ _ => rfl)
    unfold spec_l4List.s3
    simp only [decide_eq_true_eq, if_pos hpos, w, hlt, if_true]
    refine Lx.bind (l3Draw_ex hs) fun t2 h2 => ?_
    by_cases c : (b.length : Int) > 0
    · simp only [if_pos c]
      refine Lx.bind (l1Below_ex h2.2 _) fun t3 h3 => ?_
      obtain ⟨⟨i0, i1, _⟩, h3⟩ := h3
      have i1 := i1 (by omega)
      have i2 : t3.1.toNat < b.length := by omega
      simp only [if_pos i0, if_pos i1, if_pos i2]
      have hq : okp (b.getD t3.1.toNat default) = true := by
        rw [List.getD_eq_getElem?_getD, List.getElem?_eq_getElem i2]; exact hb _ (List.getElem_mem i2)
      have bq := okp_bd4 hq
      refine Lx.bind (l1Below_ex h3 6) fun t4 h4 => ?_
      by_cases c0 : (t4.1 == 0) = true
      · simp only [if_pos c0, l3Flip_f _ bq, Option.bind_some]
        refine Lx.bind ((spec_PlaneOk_ev _).ex rfl) fun t6 h6 => ?_
        rw [flp_ok hq] at h6; subst h6
        simp only [Bool.not_true, Bool.false_eq_true, if_false]
        exact go _ _ h4.2 (flp_ok hq)
      · simp only [if_neg c0]
        by_cases c1 : (t4.1 == 1) = true
        · simp only [if_pos c1]
          refine Lx.bind (l1Below_ex h4.2 5) fun t7 h7 => ?_
          refine Lx.bind ((spec_Shifted_ev _ _).ex rfl) fun t8 h8 => ?_
          refine Lx.bind ((spec_PlaneOk_ev t8.1).ex rfl) fun t9 h9 => ?_
          cases t9
          · simp only [Bool.not_false, if_true]; exact go _ _ h7.2 hq
          · simp only [Bool.not_true, Bool.false_eq_true, if_false]; exact go _ _ h7.2 h9
        · simp only [if_neg c1]
          refine Lx.bind ((spec_PlaneOk_ev t2.1).ex rfl) fun t9 h9 => ?_
          cases t9
          · simp only [Bool.not_false, if_true]; exact go _ _ h4.2 hq
          · simp only [Bool.not_true, Bool.false_eq_true, if_false]; exact go _ _ h4.2 h2.1
    · simp only [if_neg c]
      exact go _ _ h2.2 h2.1
theorem l4List_ex {s : Cur} (h : SI s) : Ex (fun k => spec_l4List.f k s 8) (fun b => (AllOk b.1 ∧ b.1.length ≤ 8) ∧ SI b.2) := by
  unfold spec_l4List.f
  refine Ex.bind (l1Below_ex h 8) fun t1 h1 => ?_
  obtain ⟨⟨i0, i1, _⟩, h1⟩ := h1
  have i1 := i1 (by omega)
  obtain ⟨m, hm⟩ : ∃ m : Nat, t1.1 = (m : Int) := ⟨t1.1.toNat, by omega⟩
  rw [hm]
  refine Ex.bind (l4List_l3 m t1.2 [] h1 (fun _ h => by cases h) (by omega) (by simp; omega)).ex fun v hv => Ex.now ⟨⟨hv.2.1, ?_⟩, hv.1⟩
  have := hv.2.2; rw [List.length_nil] at this
  show v.2.2.1.length ≤ 8
  omega
/-- what a cell's list holds to: nothing clashes. -/
def CellOk (L : List S4) : Prop := AllOk L ∧ opn L = true
theorem opn_snoc {L : List S4} {p : S4} (h : opn L = true) (hw : wl L p = false) : opn (L ++ [p]) = true := by
  unfold opn at h ⊢
  rw [Bool.not_eq_true'] at h ⊢
  cases ha : anyF (opF (L ++ [p])) (L ++ [p]).length 0 with
  | false => rfl
  | true =>
    exfalso
    obtain ⟨m, _, hm, hf⟩ := anyF_iff.1 ha
    have hml : m < L.length + 1 := by rw [List.length_append, List.length_singleton] at hm; omega
    by_cases hml' : m < L.length
    · have : opF (L ++ [p]) m = opF L m := by
        unfold opF
        rw [List.take_append_of_le_length (by omega)]
        congr 1
        simp [rd, List.getD_eq_getElem?_getD, List.getElem?_append_left hml']
      rw [this] at hf
      have : anyF (opF L) L.length 0 = true := anyF_iff.2 ⟨m, Nat.zero_le _, by omega, hf⟩
      rw [h] at this; cases this
    · have hme : m = L.length := by omega
      subst hme
      have : opF (L ++ [p]) L.length = wl L p := by
        unfold opF
        rw [List.take_left]
        congr 1
        simp [rd, List.getD_eq_getElem?_getD]
      rw [this, hw] at hf; cases hf
theorem l6Cell_l6 : ∀ (n : Nat) (s : Cur) (b : List S4), SI s → CellOk b → n ≤ 100 → b.length + n ≤ 200 → Lx (fun k m => spec_l6Cell.l6 k m (n : Int) s b) (fun r => SI r.2.1 ∧ CellOk r.2.2.1 ∧ r.2.2.1.length ≤ b.length + n)
  | 0, s, b, hs, hb, _, _ => by
    refine Lx.step (g := fun k m => spec_l6Cell.s6 k (spec_l6Cell.l6 k m) ((0 : Nat) : Int) s b) (Lx.now (v := (((), (), ()), (s, b, ()))) (fun k m => ?_) ⟨hs, hb, Nat.le_refl _⟩) (fun _ _ => rfl)
    simp only [spec_l6Cell.s6, decide_eq_true_eq]
    rw [if_neg (by omega)]
  | n + 1, s, b, hs, hb, hn, hl => by
    have w : W (((n + 1 : Nat) : Int) - 1) = (n : Int) := by rw [W_id (by omega) (by omega)]; omega
    have hpos : ((n + 1 : Nat) : Int) > 0 := by omega
    have hlt : ∀ p : S4, lt47 (b.length + ([p] : List S4).length) = true := fun p => lt47_one (by omega)
    refine Lx.step (g := fun k m => spec_l6Cell.s6 k (spec_l6Cell.l6 k m) ((n + 1 : Nat) : Int) s b) ?_ (fun _ _ => rfl)
    unfold spec_l6Cell.s6
    simp only [decide_eq_true_eq, if_pos hpos, w, hlt, if_true]
    refine Lx.bind (l3Draw_ex hs) fun t4 h4 => ?_
    refine Lx.bind ((l6With_ev hb.1 (okp_bd4 h4.1) (by omega)).ex rfl) fun t5 h5 => ?_
    cases t5
    · simp only [Bool.not_false, if_true]
      obtain ⟨v, hv, h1, h2, h3⟩ := l6Cell_l6 n t4.2 (b ++ [t4.1]) h4.2 ⟨hb.1.snoc h4.1, opn_snoc hb.2 h5⟩ (by omega) (by simp; omega)
      exact ⟨v, hv, h1, h2, by simp at h3; omega⟩
    · simp only [Bool.not_true, Bool.false_eq_true, if_false]
      obtain ⟨v, hv, h1, h2, h3⟩ := l6Cell_l6 n t4.2 b h4.2 hb (by omega) (by omega)
      exact ⟨v, hv, h1, h2, by omega⟩
def brk (m : Int) : List S4 := [⟨1, 0, 0, m⟩, ⟨-1, 0, 0, m⟩, ⟨0, 1, 0, m⟩, ⟨0, -1, 0, m + 1⟩, ⟨0, 0, 1, m⟩, ⟨0, 0, -1, m⟩]
theorem brk_ok {m : Int} (h : 1 ≤ m ∧ m ≤ 5) : CellOk (brk m) := by
  have : m = 1 ∨ m = 2 ∨ m = 3 ∨ m = 4 ∨ m = 5 := by omega
  rcases this with rfl | rfl | rfl | rfl | rfl <;> exact ⟨(by unfold AllOk brk; decide +kernel), (by decide +kernel)⟩
theorem l6Cell_ex {s : Cur} (h : SI s) {n : Int} (hn : 0 < n ∧ n ≤ 10) : Ex (fun k => spec_l6Cell.f k s n) (fun b => (CellOk b.1 ∧ b.1.length ≤ 16) ∧ SI b.2) := by
  unfold spec_l6Cell.f
  refine Ex.bind (l1Once_ex h 4) fun t1 h1 => ?_
  by_cases c : (!t1.1) = true
  · simp only [if_pos c]
    refine Ex.bind (l1Below_ex h1 5) fun t2 h2 => ?_
    refine Ex.bind (l1Below_ex h2.2 n) fun t3 h3 => ?_
    obtain ⟨⟨j0, j1, _⟩, h2⟩ := h2
    obtain ⟨⟨i0, i1, _⟩, h3⟩ := h3
    have i1 := i1 (by omega)
    have j1 := j1 (by omega)
    obtain ⟨m, hm⟩ : ∃ m : Nat, t3.1 = (m : Int) := ⟨t3.1.toNat, by omega⟩
    have w1 : W (1 + t2.1) = 1 + t2.1 := W_id (by omega) (by omega)
    have w2 : W (1 + t2.1 + 1) = 1 + t2.1 + 1 := W_id (by omega) (by omega)
    simp only [hm, w1, w2]
    refine Ex.bind (l6Cell_l6 m t3.2 (brk (1 + t2.1)) h3 (brk_ok (by omega)) (by omega) (by unfold brk; simp; omega)).ex fun v hv => Ex.now ⟨⟨hv.2.1, ?_⟩, hv.1⟩
    have := hv.2.2
    rw [show (brk (1 + t2.1)).length = 6 from rfl] at this
    show v.2.2.1.length ≤ 16
    omega
  · simp only [if_neg c]
    refine Ex.bind (l1Below_ex h1 n) fun t3 h3 => ?_
    obtain ⟨⟨i0, i1, _⟩, h3⟩ := h3
    have i1 := i1 (by omega)
    obtain ⟨m, hm⟩ : ∃ m : Nat, t3.1 = (m : Int) := ⟨t3.1.toNat, by omega⟩
    simp only [hm]
    refine Ex.bind (l6Cell_l6 m t3.2 [] h3 ⟨(fun _ h => by cases h), rfl⟩ (by omega) (by simp; omega)).ex fun v hv => Ex.now ⟨⟨hv.2.1, ?_⟩, hv.1⟩
    have := hv.2.2
    rw [List.length_nil] at this
    show v.2.2.1.length ≤ 16
    omega
theorem l6DrawAny_l9 : ∀ (n : Nat) (s : Cur) (b : List S4), SI s → b.length ≤ 50 → 26 - b.length = n → Lx (fun k m => spec_l6DrawAny.l9 k m s b) (fun r => SI r.2.1 ∧ r.2.2.1.length ≤ 50) := by
  intro n
  induction n with
  | zero =>
    intro s b hs hb hn
    refine Lx.step (g := fun k m => spec_l6DrawAny.s9 k (spec_l6DrawAny.l9 k m) s b) ?_ (fun _ _ => rfl)
    unfold spec_l6DrawAny.s9
    simp only [decide_eq_true_eq]
    refine Lx.bind (l1Below_ex hs 2) fun t5 h5 => ?_
    obtain ⟨⟨i0, i1, _⟩, h5⟩ := h5
    have i1 := i1 (by omega)
    have c : ¬ ((b.length : Int) < W (24 + t5.1)) := by rw [W_id (by omega) (by omega)]; omega
    simp only [if_neg c]
    exact Lx.now (fun _ _ => rfl) ⟨h5, hb⟩
  | succ n ih =>
    intro s b hs hb hn
    refine Lx.step (g := fun k m => spec_l6DrawAny.s9 k (spec_l6DrawAny.l9 k m) s b) ?_ (fun _ _ => rfl)
    unfold spec_l6DrawAny.s9
    simp only [decide_eq_true_eq, lt47_one (L := b) (p := ⟨1, 0, 0, 1⟩) (by omega), if_true]
    refine Lx.bind (l1Below_ex hs 2) fun t5 h5 => ?_
    by_cases c : (b.length : Int) < W (24 + t5.1)
    · simp only [if_pos c]
      exact ih t5.2 (b ++ [⟨1, 0, 0, 1⟩]) h5.2 (by simp; omega) (by simp; omega)
    · simp only [if_neg c]
      exact Lx.now (fun _ _ => rfl) ⟨h5.2, hb⟩
theorem any_end {s : Cur} (hs : SI s) {b : List S4} (hb : b.length ≤ 50) : Ex (fun k => (spec_l1Once.f k s 60).bind fun t4 => if t4.1 = true then ((spec_l6DrawAny.l9 k k (t4.2.1, t4.2.2.1, t4.2.2.2.1, ()) b).bind fun x6 => some (x6.2.2.1, (x6.2.1.1, x6.2.1.2.1, x6.2.1.2.2.1, ()))) else (some (b, (t4.2.1, t4.2.2.1, t4.2.2.2.1, ())))) (fun r => r.1.length ≤ 50 ∧ SI r.2) := by
  refine Ex.bind (l1Once_ex hs 60) fun t4 h4 => ?_
  by_cases c : t4.1 = true
  · simp only [if_pos c]
    exact Ex.bind (l6DrawAny_l9 _ t4.2 b h4 hb rfl).ex fun v hv => Ex.now ⟨hv.2, hv.1⟩
  · simp only [if_neg c]
    exact Ex.now ⟨hb, h4⟩
theorem l6DrawAny_ex {s : Cur} (h : SI s) : Ex (fun k => spec_l6DrawAny.f k s) (fun r => r.1.length ≤ 50 ∧ SI r.2) := by
  unfold spec_l6DrawAny.f
  refine Ex.bind (l4List_ex h) fun t1 h1 => ?_
  refine Ex.bind (l1Below_ex h1.2 6) fun t2 h2 => ?_
  have two : Ex (fun k => (spec_l6Cell.f k t2.2 4).bind fun t7 => (spec_l3DrawAny.f k (t7.2.1, t7.2.2.1, t7.2.2.2.1, ())).bind fun t8 => if lt47 (t7.1.length + ([t8.1] : List S4).length) = true then ((spec_l1Once.f k (t8.2.1, t8.2.2.1, t8.2.2.2.1, ()) 60).bind fun t9 => if t9.1 = true then ((spec_l6DrawAny.l9 k k (t9.2.1, t9.2.2.1, t9.2.2.2.1, ()) (t7.1 ++ ([t8.1] : List S4))).bind fun x10 => some (x10.2.2.1, (x10.2.1.1, x10.2.1.2.1, x10.2.1.2.2.1, ()))) else (some ((t7.1 ++ ([t8.1] : List S4)), (t9.2.1, t9.2.2.1, t9.2.2.2.1, ())))) else none) (fun r => r.1.length ≤ 50 ∧ SI r.2) := by
    refine Ex.bind (l6Cell_ex h2.2 (by omega)) fun t7 h7 => ?_
    refine Ex.bind (l3DrawAny_ex h7.2) fun t8 h8 => ?_
    simp only [lt47_one (L := t7.1) (p := t8.1) (by have := h7.1.2; omega), if_true]
    exact any_end h8 (by have := h7.1.2; simp; omega)
  have zero : Ex (fun k => (spec_l6Cell.f k t2.2 5).bind fun t3 => (spec_l1Once.f k (t3.2.1, t3.2.2.1, t3.2.2.2.1, ()) 60).bind fun t4 => if t4.1 = true then ((spec_l6DrawAny.l9 k k (t4.2.1, t4.2.2.1, t4.2.2.2.1, ()) t3.1).bind fun x6 => some (x6.2.2.1, (x6.2.1.1, x6.2.1.2.1, x6.2.1.2.2.1, ()))) else (some (t3.1, (t4.2.1, t4.2.2.1, t4.2.2.2.1, ())))) (fun r => r.1.length ≤ 50 ∧ SI r.2) := by
    refine Ex.bind (l6Cell_ex h2.2 (by omega)) fun t7 h7 => ?_
    exact any_end h7.2 (by have := h7.1.2; omega)
  have els : Ex (fun k => (spec_l1Once.f k t2.2 60).bind fun t4 => if t4.1 = true then ((spec_l6DrawAny.l9 k k (t4.2.1, t4.2.2.1, t4.2.2.2.1, ()) t1.1).bind fun x6 => some (x6.2.2.1, (x6.2.1.1, x6.2.1.2.1, x6.2.1.2.2.1, ()))) else (some (t1.1, (t4.2.1, t4.2.2.1, t4.2.2.2.1, ())))) (fun r => r.1.length ≤ 50 ∧ SI r.2) := any_end h2.2 (by have := h1.1.2; omega)
  by_cases c0 : (t2.1 == 0) = true
  · simp only [if_pos c0]; exact zero
  · simp only [if_neg c0]
    by_cases c1 : (t2.1 == 1) = true
    · simp only [if_pos c1]; exact zero
    · simp only [if_neg c1]
      by_cases c2 : (t2.1 == 2) = true
      · simp only [if_pos c2]; exact two
      · simp only [if_neg c2]; exact els
theorem DrawBlame_ex {a : List Int} (h : a.length ≤ 1099511627776) : Ex (fun k => spec_DrawBlame.f k a) (fun L => L.length ≤ 50) := by
  unfold spec_DrawBlame.f
  refine Ex.bind (l1New_ex h) fun t1 h1 => ?_
  exact Ex.bind (l6DrawAny_ex h1) fun t2 h2 => Ex.now h2.1
theorem DrawSplits_ex {a : List Int} (h : a.length ≤ 1099511627776) : Ex (fun k => spec_DrawSplits.f k a) (fun r => r.1.length ≤ 50) := by
  unfold spec_DrawSplits.f
  refine Ex.bind (l1New_ex h) fun t1 h1 => ?_
  refine Ex.bind (l6Cell_ex h1 (by omega)) fun t2 h2 => ?_
  refine Ex.bind (l1Once_ex h2.2 6) fun t3 h3 => ?_
  by_cases c : t3.1 = true
  · simp only [if_pos c]
    refine Ex.bind (l6DrawAny_ex h3) fun t4 h4 => ?_
    exact Ex.bind (l3DrawAny_ex h4.2) fun t5 h5 => Ex.now h4.1
  · simp only [if_neg c]
    exact Ex.bind (l3DrawAny_ex h3) fun t5 h5 => Ex.now (by have := h2.1.2; show t2.1.length ≤ 50; omega)
end Go.Proofs.Ytlkcpldohlemcaa.Q
