/- What the evaluator tells of one operation is what the model does: literals, slices made, appends, stores, cuts. -/
import Derived.Test.YtalkkenkeilmpaaGreatEv4
import Derived.Laws.OwnMore
import Derived.ArgAppend
namespace Go.Proofs.YtalkkenkeilmpaaGreat.Ev
open Go Go.RowKit
set_option linter.unusedVariables false
set_option linter.unusedSimpArgs false

theorem cell_flat (e : El) (x : e.T) (c : Nat) : flat (e.cell x c) = true := by
  cases e with
  | i k => rfl
  | s4 => match c with | 0 => rfl | 1 => rfl | 2 => rfl | c + 3 => rfl
  | rows => rfl
  | tree => match c with | 0 => rfl | 1 => rfl | 2 => rfl | 3 => rfl | 4 => rfl | c + 5 => rfl
  | num => match c with | 0 => rfl | c + 1 => rfl
  | i2 => match c with | 0 => rfl | c + 1 => rfl
  | rt => match c with | 0 => rfl | 1 => rfl | 2 => rfl | 3 => rfl | 4 => rfl | c + 5 => rfl

theorem rep_one {w : World} {ro : Nat → Prop} {x : Value} {y : AV} (h : Rep w ro x y) (hf : flat y = true) : x.oneCell' = true := by
  cases h with
  | v x => cases x <;> simp_all [flat, Value.oneCell']
  | agg => simp [flat] at hf
  | sl => rfl
  | pt => simp [flat] at hf

/-- cells beside what is told of them. -/
def PW (w : World) (ro : Nat → Prop) (cs : Array Value) (ys : List AV) : Prop := cs.size = ys.length ∧ ∀ (i : Nat) (x : Value) (y : AV), cs[i]? = some x → ys[i]? = some y → Rep w ro x y

theorem splice_len {xs ys : List AV} {off : Nat} (h : off + ys.length ≤ xs.length) : (splice xs off ys).length = xs.length := by
  simp [splice]; omega
theorem splice_get {xs ys : List AV} {off k : Nat} (h : off + ys.length ≤ xs.length) : (splice xs off ys)[k]? = if k < off then xs[k]? else if k < off + ys.length then ys[k - off]? else xs[k]? := by
  unfold splice
  by_cases h1 : k < off
  · rw [if_pos h1, List.append_assoc, List.getElem?_append_left (by simp; omega), List.getElem?_take, if_pos h1]
  · rw [if_neg h1]
    by_cases h2 : k < off + ys.length
    · rw [if_pos h2, List.getElem?_append_left (by simp; omega), List.getElem?_append_right (by simp; omega)]
      congr 1; simp; omega
    · rw [if_neg h2, List.getElem?_append_right (by simp; omega), List.getElem?_drop]
      congr 1; simp; omega

theorem fold_put (off : Nat) : ∀ (l : List Value) (j : Nat) (cs : Array Value), ((l.zipIdx j).foldl (fun cs (c, j) => cs.setIfInBounds (off + j) c) cs).size = cs.size ∧
    ∀ k, ((l.zipIdx j).foldl (fun cs (c, j) => cs.setIfInBounds (off + j) c) cs)[k]? = if off + j ≤ k ∧ k < off + j + l.length ∧ k < cs.size then l[k - (off + j)]? else cs[k]?
  | [], j, cs => ⟨rfl, fun k => by rw [if_neg (by simp; omega)]; rfl⟩
  | v :: l, j, cs => by
    obtain ⟨h1, h2⟩ := fold_put off l (j + 1) (cs.setIfInBounds (off + j) v)
    simp only [List.zipIdx_cons, List.foldl_cons]
    refine ⟨by rw [h1]; simp, fun k => ?_⟩
    have hc : (off + j ≤ k ∧ k < off + j + (v :: l).length ∧ k < cs.size) ↔ ((k = off + j ∧ k < cs.size) ∨ (off + (j + 1) ≤ k ∧ k < off + (j + 1) + l.length ∧ k < cs.size)) := by
      simp only [List.length_cons]; omega
    rw [h2 k, Array.size_setIfInBounds, Array.getElem?_setIfInBounds]
    by_cases h3 : off + (j + 1) ≤ k ∧ k < off + (j + 1) + l.length ∧ k < cs.size
    · rw [if_pos h3, if_pos (hc.2 (.inr h3))]
      obtain ⟨m, hm⟩ : ∃ m, k - (off + j) = m + 1 := ⟨k - (off + j) - 1, by omega⟩
      rw [hm, List.getElem?_cons_succ]; congr 1; omega
    · rw [if_neg h3]
      by_cases hk : off + j = k
      · rw [if_pos hk]
        by_cases hl : k < cs.size
        · rw [if_pos (hc.2 (.inl ⟨hk.symm, hl⟩))]; subst hk; simp [hl]
        · rw [if_neg (fun e => (hc.1 e).elim (fun x => hl x.2) h3)]; simp [hl, hk]
      · rw [if_neg hk, if_neg (fun e => (hc.1 e).elim (fun x => hk x.1.symm) h3)]

theorem fold_put' (off : Nat) (vs cs : Array Value) : (vs.zipIdx.foldl (fun cs (c, j) => cs.setIfInBounds (off + j) c) cs).size = cs.size ∧
    ∀ k, (vs.zipIdx.foldl (fun cs (c, j) => cs.setIfInBounds (off + j) c) cs)[k]? = if off ≤ k ∧ k < off + vs.size ∧ k < cs.size then vs[k - off]? else cs[k]? := by
  have := fold_put off vs.toList 0 cs
  rw [← Array.foldl_toList, Array.toList_zipIdx]
  simpa using this

section
variable {w : World} {ro : Nat → Prop}

theorem put_pw {cs : Array Value} {ys : List AV} (h : PW w ro cs ys) {v : Value} {y : AV} (hv : Rep w ro v y) {off : Nat} (ho : off + (cellsA y).length ≤ ys.length) :
    PW w ro (v.cells.zipIdx.foldl (fun cs (c, j) => cs.setIfInBounds (off + j) c) cs) (splice ys off (cellsA y)) := by
  obtain ⟨hn, hc⟩ := cells_rep hv
  obtain ⟨h1, h2⟩ := fold_put' off v.cells cs
  refine ⟨by rw [h1, splice_len ho, h.1], fun i a b ha hb => ?_⟩
  rw [h2 i] at ha
  rw [splice_get ho] at hb
  have hs := h.1
  by_cases g1 : i < off
  · rw [if_neg (by omega)] at ha; rw [if_pos g1] at hb; exact h.2 _ _ _ ha hb
  · rw [if_neg g1] at hb
    by_cases g2 : i < off + (cellsA y).length
    · rw [if_pos ⟨by omega, by omega, by omega⟩] at ha; rw [if_pos g2] at hb; exact hc _ _ _ ha hb
    · rw [if_neg (by omega)] at ha; rw [if_neg g2] at hb; exact h.2 _ _ _ ha hb

/-- parts of a literal beside what is told of them. -/
def PP (w : World) (ro : Nat → Prop) : List (Nat × Value) → List (Nat × AV) → Prop
  | [], [] => True
  | (i, v) :: ps, (j, y) :: l => i = j ∧ Rep w ro v y ∧ PP w ro ps l
  | _, _ => False

theorem PP.mono {ro' : Nat → Prop} (hr : ∀ b, ro b → ro' b) : ∀ (ps : List (Nat × Value)) (l : List (Nat × AV)), PP w ro ps l → PP w ro' ps l
  | [], [], _ => trivial
  | (_, _) :: ps, (_, _) :: l, h => ⟨h.1, h.2.1.mono hr (fun _ _ => rfl), PP.mono hr ps l h.2.2⟩
  | [], _ :: _, h => h
  | _ :: _, [], h => h

theorem fill_ok {place : Nat → Option (Nat × Nat)} : ∀ (ps : List (Nat × Value)) (l : List (Nat × AV)) (cs : Array Value) (ys zs : List AV), PP w ro ps l → PW w ro cs ys → fillA place ys l = some zs → ∃ cs', Instr.fill place cs ps = some cs' ∧ PW w ro cs' zs
  | [], [], cs, ys, zs, _, h, hf => by simp [fillA] at hf; subst hf; exact ⟨cs, rfl, h⟩
  | (i, v) :: ps, (j, y) :: l, cs, ys, zs, hp, h, hf => by
    obtain ⟨rfl, hv, hp⟩ := hp
    simp only [fillA] at hf
    simp only [Instr.fill]
    split at hf
    · rename_i off size hpl
      split at hf
      · rename_i h1 h2
        have e1 := beq_iff.1 h1
        have e2 := Nat.le_of_ble_eq_true h2
        obtain ⟨hn, _⟩ := cells_rep hv
        have hs := h.1
        obtain ⟨cs', h3, h4⟩ := fill_ok ps l _ _ zs hp (put_pw (off := off) h hv (by omega)) hf
        refine ⟨cs', ?_, h4⟩
        have : (decide (v.cells.size ≠ size) || decide (off + v.cells.size > cs.size)) = false := by simp; omega
        simp only [hpl]
        rw [this]
        exact h3
      · cases hf
    · cases hf
  | [], _ :: _, _, _, _, h, _, _ => h.elim
  | _ :: _, [], _, _, _, h, _, _ => h.elim

theorem dec_ok {e : El} {ys : List AV} {x : e.T} (h : e.dec ys = some x) : ys.length = e.z ∧ ∀ (c : Nat) (v : Value) (y : AV), ys[c]? = some y → Rep w ro v y → Rep w ro v (e.cell x c) := by
  unfold El.dec at h
  split at h
  · split at h
    · rename_i hk; cases h; subst hk
      refine ⟨rfl, fun c v y hy hr => ?_⟩
      cases c with
      | zero => simp at hy; subst hy; exact hr
      | succ c => simp at hy
    · cases h
  · cases h
    refine ⟨rfl, fun c v y hy hr => ?_⟩
    match c with
    | 0 => simp at hy; subst hy; exact hr
    | 1 => simp at hy; subst hy; exact hr
    | 2 => simp at hy; subst hy; exact hr
    | 3 => simp at hy; subst hy; exact hr
    | c + 4 => simp at hy
  · rename_i y0
    refine ⟨rfl, fun c v y hy hr => ?_⟩
    cases c with
    | zero =>
      simp at hy; subst hy
      unfold rowOf at h
      split at h
      · cases h; exact hr
      · cases h; cases hr
        exact Rep.sl none 0 .s4 [] (fun _ _ => undef) (Nat.le_refl _) (fun _ => rfl) (fun j hj => by cases hj) (fun j c hj => by cases hj)
      · cases h
    | succ c => simp at hy
  · rename_i b x y z u k
    split at h
    · rename_i l hl
      cases h
      refine ⟨rfl, fun c v y hy hr => ?_⟩
      match c with
      | 0 => simp at hy; subst hy; exact hr
      | 1 => simp at hy; subst hy; exact hr
      | 2 => simp at hy; subst hy; exact hr
      | 3 => simp at hy; subst hy; exact hr
      | 4 => simp at hy; subst hy; exact hr
      | 5 =>
        simp at hy; subst hy
        unfold kidsOf at hl
        split at hl
        · cases hl; exact hr
        · cases hl; cases hr
          exact Rep.sl none 0 .tree [] (fun _ _ => undef) (Nat.le_refl _) (fun _ => rfl) (fun j hj => by cases hj) (fun j c hj => by cases hj)
        · cases hl
      | c + 6 => simp at hy
    · cases h
  · rename_i b k
    split at h
    · rename_i l hl
      cases h
      refine ⟨rfl, fun c v y hy hr => ?_⟩
      match c with
      | 0 => simp at hy; subst hy; exact hr
      | 1 =>
        simp at hy; subst hy
        unfold numOf at hl
        split at hl
        · cases hl; exact hr
        · cases hl; cases hr
          exact Rep.sl none 0 (.i .i64) [] (fun _ _ => undef) (Nat.le_refl _) (fun _ => rfl) (fun j hj => by cases hj) (fun j c hj => by cases hj)
        · cases hl
      | c + 2 => simp at hy
    · cases h
  · cases h
    refine ⟨rfl, fun c v y hy hr => ?_⟩
    match c with
    | 0 => simp at hy; subst hy; exact hr
    | 1 => simp at hy; subst hy; exact hr
    | c + 2 => simp at hy
  · cases h
    refine ⟨rfl, fun c v y hy hr => ?_⟩
    match c with
    | 0 => simp at hy; subst hy; exact hr
    | 1 => simp at hy; subst hy; exact hr
    | 2 => simp at hy; subst hy; exact hr
    | 3 => simp at hy; subst hy; exact hr
    | 4 => simp at hy; subst hy; exact hr
    | 5 => simp at hy; subst hy; exact hr
    | c + 6 => simp at hy
  · cases h

theorem fill_lits {e : El} : ∀ (l : List (Nat × AV)) (ps : List (Nat × Value)) (i : Nat) (cs : Array Value) (xs : List e.T), lits e i l = some xs → PP w ro ps l → (i + l.length) * e.z ≤ cs.size →
    ∃ cs', Instr.fill (fun i => some (i * e.z, e.z)) cs ps = some cs' ∧ cs'.size = cs.size ∧ (∀ k, k < i * e.z → cs'[k]? = cs[k]?) ∧ xs.length = l.length ∧ ∀ q c, q < xs.length → c < e.z → ∃ x, cs'[(i + q) * e.z + c]? = some x ∧ Rep w ro x (e.cell (xs.getD q default) c)
  | [], [], i, cs, xs, h, _, _ => by
    simp [lits] at h; subst h
    exact ⟨cs, rfl, rfl, fun _ _ => rfl, rfl, fun q c hq => by cases hq⟩
  | (j, y) :: l, (j', v) :: ps, i, cs, xs, h, hp, hs => by
    obtain ⟨rfl, hv, hp⟩ := hp
    simp only [lits] at h
    split at h
    · rename_i hij
      have hij := beq_iff.1 hij
      subst hij
      split at h
      · rename_i x hx
        split at h
        · rename_i r hr
          cases h
          obtain ⟨d1, d2⟩ := dec_ok (w := w) (ro := ro) hx
          obtain ⟨hn, hc⟩ := cells_rep hv
          have hs' : (i + 1 + l.length) * e.z ≤ cs.size := by rw [show i + 1 + l.length = i + (l.length + 1) by omega]; exact hs
          have hi1 : (i + 1) * e.z ≤ cs.size := Nat.le_trans (Nat.mul_le_mul_right _ (by omega)) hs'
          rw [Nat.add_mul, Nat.one_mul] at hi1
          obtain ⟨f1, f2⟩ := fold_put' (i * e.z) v.cells cs
          obtain ⟨cs', h1, h2, h3, h4, h5⟩ := fill_lits l ps (i + 1) _ r hr hp (by rw [f1]; exact hs')
          refine ⟨cs', ?_, h2.trans f1, fun k hk => ?_, by simp [h4], fun q c hq hc' => ?_⟩
          · simp only [Instr.fill]
            have : (decide (v.cells.size ≠ e.z) || decide (i * e.z + v.cells.size > cs.size)) = false := by simp; omega
            rw [this]; exact h1
          · rw [h3 k (by rw [Nat.add_mul, Nat.one_mul]; omega), f2 k, if_neg (by omega)]
          · cases q with
            | zero =>
              rw [Nat.add_zero, h3 _ (by rw [Nat.add_mul, Nat.one_mul]; omega), f2, if_pos ⟨by omega, by omega, by omega⟩]
              rw [Nat.add_sub_cancel_left]
              have hcl : c < v.cells.size := by omega
              have hcl' : c < (cellsA y).length := by omega
              refine ⟨v.cells[c], by simp [hcl], ?_⟩
              exact d2 c _ _ (List.getElem?_eq_getElem hcl') (hc c _ _ (by simp [hcl]) (List.getElem?_eq_getElem hcl'))
            | succ q =>
              obtain ⟨z, hz1, hz2⟩ := h5 q c (by simpa using hq) hc'
              exact ⟨z, by rw [← hz1, show i + (q + 1) = i + 1 + q by omega], by simpa using hz2⟩
        · cases h
      · cases h
    · cases h
  | [], _ :: _, _, _, _, _, h, _ => h.elim
  | _ :: _, [], _, _, _, _, h, _ => h.elim
end
end Go.Proofs.YtalkkenkeilmpaaGreat.Ev
