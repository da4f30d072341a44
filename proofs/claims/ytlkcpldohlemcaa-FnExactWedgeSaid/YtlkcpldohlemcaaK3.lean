/- FnExactConvex. -/
import Derived.Test.YtlkcpldohlemcaaK2
import Derived.Test.YtlkcpldohlemcaaP4b
import Derived.Test.YtlkcpldohlemcaaP9
namespace Go.Proofs.Ytlkcpldohlemcaa.Q
open Go Go.RowKit Go.Proofs Go.Proofs.Ytlkcpldohlemcaa.Ev Go.Proofs.Ytlkcpldohlemcaa.G
set_option linter.unusedSimpArgs false
set_option linter.unusedVariables false

theorem toPlaneS_l3 {l : List S4} (hl : l.length ≤ 2097152) : ∀ (d i : Nat), l.length - i = d → i ≤ l.length → ∀ o : List S4, o.length = l.length → (∀ j : Nat, j < i → o[j]? = l[j]?) → Lv (fun k m => laws_toPlaneS.l3 k m l (i : Int) o) (((), ()), (l, ())) := by
  intro d
  induction d with
  | zero =>
    intro i hd hi o ho hj
    have e : o = l := List.ext_getElem? fun j => by
      by_cases c : j < i
      · exact hj j c
      · rw [List.getElem?_eq_none (by omega), List.getElem?_eq_none (by omega)]
    subst e
    refine Lv.step (g := fun k m => laws_toPlaneS.s3 k (laws_toPlaneS.l3 k m) o (i : Int) o) ?_ (fun _ _ => rfl)
    simp only [laws_toPlaneS.s3, decide_eq_true_eq, if_neg (show ¬ (i : Int) < (o.length : Int) by omega)]
    exact .now fun _ _ => rfl
  | succ d ih =>
    intro i hd hi o ho hj
    have hi' : i < l.length := by omega
    refine Lv.step (g := fun k m => laws_toPlaneS.s3 k (laws_toPlaneS.l3 k m) l (i : Int) o) ?_ (fun _ _ => rfl)
    simp only [laws_toPlaneS.s3, laws_toPlane.f, Option.bind_some, decide_eq_true_eq, if_pos (show (i : Int) < (l.length : Int) by omega), if_pos (show (i : Int) < (o.length : Int) by omega), if_pos (Int.natCast_nonneg _), Int.toNat_natCast, if_pos (show i < o.length by omega), wrn hi' hl]
    refine ih (i + 1) (by omega) (by omega) _ (by simp [ho]) fun j hj' => ?_
    rw [List.getElem?_set]
    by_cases c : i = j
    · subst c; rw [if_pos rfl, if_pos (by omega), rd_in hi', List.getElem?_eq_getElem hi']
    · rw [if_neg c]; exact hj j (by omega)
theorem toPlaneS_ev {l : List S4} (hl : l.length ≤ 2097152) : Ev (fun k => laws_toPlaneS.f k l) l := by
  simp only [laws_toPlaneS.f, if_pos (Int.natCast_nonneg _), Int.toNat_natCast, if_pos (lt47_ok (show l.length < 2199023255552 by omega))]
  exact (toPlaneS_l3 hl l.length 0 (by omega) (by omega) _ (by simp) (fun j hj => absurd hj (Nat.not_lt_zero j))).ev.one
theorem eqPlane_self' (k : Nat) (p : S4) : laws_eqPlane.f k p p = some true := by simp [laws_eqPlane.f]
theorem eqPlaneS_l4 {l : List S4} (hl : l.length ≤ 2097152) : ∀ (d i : Nat), l.length - i = d → i ≤ l.length → Lv (fun k m => laws_eqPlaneS.l4 k m l l (i : Int)) (.inr ((), ())) := by
  intro d
  induction d with
  | zero =>
    intro i hd hi
    refine Lv.step (g := fun k m => laws_eqPlaneS.s4 k (laws_eqPlaneS.l4 k m) l l (i : Int)) ?_ (fun _ _ => rfl)
    simp only [laws_eqPlaneS.s4, decide_eq_true_eq, if_neg (show ¬ (i : Int) < (l.length : Int) by omega)]
    exact .now fun _ _ => rfl
  | succ d ih =>
    intro i hd hi
    have hi' : i < l.length := by omega
    refine Lv.step (g := fun k m => laws_eqPlaneS.s4 k (laws_eqPlaneS.l4 k m) l l (i : Int)) ?_ (fun _ _ => rfl)
    simp only [laws_eqPlaneS.s4, eqPlane_self', Option.bind_some, decide_eq_true_eq, if_pos (show (i : Int) < (l.length : Int) by omega), if_pos (Int.natCast_nonneg _), wrn hi' hl, Bool.not_true, Bool.false_eq_true, if_false]
    exact ih (i + 1) (by omega) (by omega)
theorem eqPlaneS_ev {l : List S4} (hl : l.length ≤ 2097152) : Ev (fun k => laws_eqPlaneS.f k l l) true := by
  simp only [laws_eqPlaneS.f, ne_iff, ne_eq, not_true_eq_false, if_false]
  exact (eqPlaneS_l4 hl l.length 0 (by omega) (by omega)).ev.bind (.now fun _ => rfl)
theorem markPlaneS_l2 {n : Nat} (hl : n ≤ 2097152) : ∀ (d i : Nat), n - i = d → i ≤ n → ∀ o : List S4, o.length = n → ∃ r : List S4, Lv (fun k m => laws_markPlaneS.l2 k m (1 + 4 * (i : Int)) (i : Int) o) (((), 1 + 4 * (n : Int), ()), (r, ())) := by
  intro d
  induction d with
  | zero =>
    intro i hd hi o ho
    obtain rfl : i = n := by omega
    refine ⟨o, ?_⟩
    refine Lv.step (g := fun k m => laws_markPlaneS.s2 k (laws_markPlaneS.l2 k m) (1 + 4 * (i : Int)) (i : Int) o) ?_ (fun _ _ => rfl)
    simp only [laws_markPlaneS.s2, decide_eq_true_eq, if_neg (show ¬ (i : Int) < (o.length : Int) by omega)]
    exact .now fun _ _ => rfl
  | succ d ih =>
    intro i hd hi o ho
    have hi' : i < o.length := by omega
    have w0 : W ((i : Int) + 1) = ((i + 1 : Nat) : Int) := by rw [W_id (by omega) (by omega)]; omega
    have w1 : W (1 + 4 * (i : Int) + 1) = 4 * (i : Int) + 2 := by rw [W_id (by omega) (by omega)]; omega
    have w2 : W (4 * (i : Int) + 2 + 1) = 4 * (i : Int) + 3 := by rw [W_id (by omega) (by omega)]; omega
    have w3 : W (4 * (i : Int) + 3 + 1) = 4 * (i : Int) + 4 := by rw [W_id (by omega) (by omega)]; omega
    have w4 : W (4 * (i : Int) + 4 + 1) = 1 + 4 * ((i + 1 : Nat) : Int) := by rw [W_id (by omega) (by omega)]; omega
    have key : ∀ o' : List S4, o'.length = n → ∃ r : List S4, Lv (fun k m => laws_markPlaneS.l2 k m (1 + 4 * ((i + 1 : Nat) : Int)) ((i + 1 : Nat) : Int) o') (((), 1 + 4 * (n : Int), ()), (r, ())) := ih (i + 1) (by omega) (by omega)
    have st : ∃ r : List S4, Lv (fun k m => laws_markPlaneS.s2 k (laws_markPlaneS.l2 k m) (1 + 4 * (i : Int)) (i : Int) o) (((), 1 + 4 * (n : Int), ()), (r, ())) := by
      simp only [laws_markPlaneS.s2, decide_eq_true_eq, List.length_set, Int.toNat_natCast, if_pos (show (i : Int) < (o.length : Int) by omega), if_pos (Int.natCast_nonneg _), if_pos hi', w0, w1, w2, w3, w4]
      exact key _ (by simp only [List.length_set]; exact ho)
    obtain ⟨r, hr⟩ := st
    exact ⟨r, Lv.step hr (fun _ _ => rfl)⟩
theorem markPlaneS_ev {l : List S4} (hl : l.length ≤ 2097152) : ∃ r : List S4, Ev (fun k => laws_markPlaneS.f k l 1) (1 + 4 * (l.length : Int), r) := by
  obtain ⟨r, h⟩ := markPlaneS_l2 hl l.length 0 (by omega) (by omega) l rfl
  refine ⟨r, ?_⟩
  simp only [laws_markPlaneS.f]
  exact h.ev.one (g := fun x1 => (x1.1.2.1, x1.2.1))

/-- the planes that are kept behind a path. -/
def ks : List S4 → List S4 → List S4
  | _, [] => []
  | acc, p :: L => if wl acc (flp p) = true then ks acc L else p :: ks (acc ++ [p]) L
/-- the cuts, one in the other. -/
def bt : List S4 → Tree
  | [] => lfT true
  | p :: ps => .mk false p [bt ps, lfT false]
theorem bt_tw : ∀ ps, TW (bt ps)
  | [] => lf_tw _
  | p :: ps => .mk _ _ _ (by simp) (fun t h => by
    simp at h
    rcases h with rfl | rfl
    · exact bt_tw ps
    · exact lf_tw _)
theorem bt_cnt : ∀ ps, cntT (bt ps) = 1 + 2 * ps.length
  | [] => by simp [bt, lfT, cntT, cntL]
  | p :: ps => by simp [bt, cntT, cntL, bt_cnt ps, lfT]; omega
theorem ks_len : ∀ (L acc : List S4), (ks acc L).length ≤ L.length
  | [], _ => Nat.le_refl _
  | p :: L, acc => by
    unfold ks
    split
    · have := ks_len L acc; simp; omega
    · have := ks_len L (acc ++ [p]); simp; omega
theorem rd_l {A : List S4} {x : S4} {i : Nat} (h : i < A.length) : rd (A ++ [x]) (i : Int) = rd A (i : Int) := by simp [rd, List.getD_eq_getElem?_getD, List.getElem?_append_left h]
theorem rd_r {A : List S4} {x : S4} : rd (A ++ [x]) (A.length : Int) = x := by simp [rd, List.getD_eq_getElem?_getD]
/-- planes that are in a list in their order. -/
def Emb (A M : List S4) : Prop := ∃ f : Nat → Nat, (∀ i j, i < j → j < A.length → f i < f j) ∧ ∀ i, i < A.length → f i < M.length ∧ rd A (i : Int) = rd M (f i : Int)
theorem Emb.skip {A M : List S4} (h : Emb A M) (x : S4) : Emb A (M ++ [x]) := by
  obtain ⟨f, h1, h2⟩ := h
  refine ⟨f, h1, fun i hi => ?_⟩
  obtain ⟨h3, h4⟩ := h2 i hi
  exact ⟨by simp; omega, by rw [rd_l h3]; exact h4⟩
theorem Emb.keep {A M : List S4} (h : Emb A M) (x : S4) : Emb (A ++ [x]) (M ++ [x]) := by
  obtain ⟨f, h1, h2⟩ := h
  refine ⟨fun i => if i < A.length then f i else M.length, fun i j hij hj => ?_, fun i hi => ?_⟩
  · simp at hj
    simp only
    rw [if_pos (show i < A.length by omega)]
    by_cases c : j < A.length
    · rw [if_pos c]; exact h1 i j hij c
    · rw [if_neg c]; exact (h2 i (by omega)).1
  · simp at hi
    simp only
    by_cases c : i < A.length
    · rw [if_pos c]
      obtain ⟨h3, h4⟩ := h2 i c
      exact ⟨by simp; omega, by rw [rd_l c, rd_l h3]; exact h4⟩
    · rw [if_neg c]
      obtain rfl : i = A.length := by omega
      exact ⟨by simp, by rw [rd_r, rd_r]⟩
theorem emb_ks : ∀ (L A M : List S4), Emb A M → Emb (A ++ ks A L) (M ++ L)
  | [], A, M, h => by simpa [ks] using h
  | p :: L, A, M, h => by
    unfold ks
    split
    · have := emb_ks L A (M ++ [p]) (h.skip p)
      rw [List.append_assoc] at this; exact this
    · have := emb_ks L (A ++ [p]) (M ++ [p]) (h.keep p)
      rw [List.append_assoc, List.append_assoc] at this; exact this
theorem wl_emb {A M : List S4} {p : S4} (h : Emb A M) (hw : wl A p = true) : wl M p = true := by
  obtain ⟨f, h1, h2⟩ := h
  simp only [wl, anyF_iff, w2, w3, w4, Bool.or_eq_true] at hw ⊢
  obtain ⟨i, _, hi, hw⟩ := hw
  obtain ⟨i1, i2⟩ := h2 i (by omega)
  refine ⟨f i, by omega, by omega, ?_⟩
  rcases hw with hw | ⟨j, j1, j2, hw⟩
  · exact .inl (i2 ▸ hw)
  · obtain ⟨j3, j4⟩ := h2 j (by omega)
    have ij := h1 i j (by omega) (by omega)
    refine .inr ⟨f j, by omega, by omega, ?_⟩
    rcases hw with hw | ⟨m, m1, m2, hw⟩
    · exact .inl (by rw [← i2, ← j4]; exact hw)
    · obtain ⟨m3, m4⟩ := h2 m (by omega)
      have jm := h1 j m (by omega) (by omega)
      exact .inr ⟨f m, by omega, by omega, by rw [← i2, ← j4, ← m4]; exact hw⟩
theorem opn_wl {L : List S4} (h : opn L = true) {pre suf : List S4} {p : S4} (e : L = pre ++ p :: suf) : wl (ks [] pre) p = false := by
  have hi : pre.length < L.length := by rw [e]; simp
  have h1 : wl (L.take pre.length) (rd L (pre.length : Int)) = false := by
    unfold opn at h
    rw [Bool.not_eq_true'] at h
    cases hw : wl (L.take pre.length) (rd L (pre.length : Int)) with
    | false => rfl
    | true =>
      have : anyF (opF L) L.length 0 = true := anyF_iff.2 ⟨pre.length, by omega, by omega, hw⟩
      rw [h] at this; cases this
  have e1 : L.take pre.length = pre := by rw [e]; simp
  have e2 : rd L (pre.length : Int) = p := by rw [e]; simp [rd, List.getD_eq_getElem?_getD]
  rw [e1, e2] at h1
  cases hw : wl (ks [] pre) p with
  | false => rfl
  | true =>
    have := wl_emb (emb_ks pre [] [] ⟨id, fun i j hij hj => hij, fun i hi => absurd hi (Nat.not_lt_zero i)⟩) (by simpa using hw)
    rw [List.nil_append, h1] at this; cases this
theorem convex_l3 {L : List S4} (hL : ∀ p ∈ L, okp p = true) (hl : L.length ≤ 2097152) {t : Tree} : ∀ (d i : Nat) (acc : List S4), L.length - i = d → i ≤ L.length → acc.length ≤ i → (∀ p ∈ acc, okp p = true) →
    Lv (fun k n => impl_convex.l3 k n L (L.length : Int) (i : Int) t acc) (((), (), ()), (t, acc ++ ks acc (L.drop i), ())) := by
  intro d
  induction d with
  | zero =>
    intro i acc hd hi ha hok
    refine Lv.step (g := fun k n => impl_convex.s3 k (impl_convex.l3 k n) L (L.length : Int) (i : Int) t acc) ?_ (fun _ _ => rfl)
    simp only [impl_convex.s3, decide_eq_true_eq, if_neg (show ¬ (i : Int) < (L.length : Int) by omega), T1_eq]
    rw [List.drop_eq_nil_of_le (by omega), ks, List.append_nil]
    exact .now fun _ _ => rfl
  | succ d ih =>
    intro i acc hd hi ha hok
    have hi' : i < L.length := by omega
    have hp : okp (rd L (i : Int)) = true := by rw [rd_in hi']; exact hL _ (List.getElem_mem _)
    have l1 : lt47 (acc.length + ([rd L (i : Int)] : List S4).length) = true := lt47_ok (by rw [List.length_singleton]; omega)
    refine Lv.step (g := fun k n => impl_convex.s3 k (impl_convex.l3 k n) L (L.length : Int) (i : Int) t acc) ?_ (fun _ _ => rfl)
    simp only [impl_convex.s3, decide_eq_true_eq, if_pos (show (i : Int) < (L.length : Int) by omega), if_pos (Int.natCast_nonneg _), wrn hi' hl, flip_f _ (okp_bd4 hp), Option.bind_some, l1, if_true, T1_eq]
    refine Lv.bind (room_ev hok (okp_bd4 (flp_ok hp)) (by omega)) ?_
    rw [← List.getElem_cons_drop hi', ks, ← rd_in hi']
    cases c : wl acc (flp (rd L (i : Int))) with
    | true => simp only [Bool.not_true, Bool.false_eq_true, if_false, if_true]; exact ih (i + 1) acc (by omega) (by omega) (by omega) hok
    | false =>
      simp only [Bool.not_false, if_true, Bool.false_eq_true, if_false]
      have := ih (i + 1) (acc ++ [rd L (i : Int)]) (by omega) (by omega) (by simp; omega) (fun q hq => by
        rcases List.mem_append.1 hq with hq | hq
        · exact hok q hq
        · simp only [List.mem_singleton] at hq; subst hq; exact hp)
      rw [List.append_assoc] at this
      exact this
theorem convex_l10 {path : List S4} (hl : path.length ≤ 2097152) {t : Tree} : ∀ (j : Nat), j ≤ path.length →
    Lv (fun k n => impl_convex.l10 k n ((j : Int) - 1) t ((bt (path.drop j)).inn, (bt (path.drop j)).p) path (bt (path.drop j)).kids) (((), (), ()), (t, ((bt path).inn, (bt path).p), (bt path).kids, ())) := by
  intro j
  induction j with
  | zero =>
    intro _
    refine Lv.step (g := fun k n => impl_convex.s10 k (impl_convex.l10 k n) (((0 : Nat) : Int) - 1) t ((bt (path.drop 0)).inn, (bt (path.drop 0)).p) path (bt (path.drop 0)).kids) ?_ (fun _ _ => rfl)
    simp only [impl_convex.s10, decide_eq_true_eq, if_neg (show ¬ ((0 : Nat) : Int) - 1 ≥ 0 by omega), T1_eq, List.drop_zero]
    exact .now fun _ _ => rfl
  | succ j ih =>
    intro hj
    have hj' : j < path.length := by omega
    have e0 : ((j + 1 : Nat) : Int) - 1 = (j : Int) := by omega
    rw [e0]
    refine Lv.step (g := fun k n => impl_convex.s10 k (impl_convex.l10 k n) (j : Int) t ((bt (path.drop (j + 1))).inn, (bt (path.drop (j + 1))).p) path (bt (path.drop (j + 1))).kids) ?_ (fun _ _ => rfl)
    have w : W ((j : Int) - 1) = (j : Int) - 1 := W_id (by omega) (by omega)
    have eg : path.getD j default = path[j] := by simp [List.getD_eq_getElem?_getD, hj']
    simp only [impl_convex.s10, decide_eq_true_eq, if_pos (show (j : Int) ≥ 0 by omega), if_pos (Int.natCast_nonneg _), if_pos (show (j : Int) < (path.length : Int) by omega), Int.toNat_natCast, if_pos hj', impl_Leaf.f, Option.bind_some, T1_eq, w, eg]
    have := ih (by omega)
    rw [← List.getElem_cons_drop hj', bt] at this
    have e2 : Tree.mk (bt (path.drop (j + 1))).inn (bt (path.drop (j + 1))).p (bt (path.drop (j + 1))).kids = bt (path.drop (j + 1)) := T1_eq _
    rw [e2]
    exact this
theorem iconvex_ev {L : List S4} (hL : ∀ p ∈ L, okp p = true) (hl : L.length ≤ 2097152) : Ev (fun k => impl_convex.f k L) (bt (ks [] L)) := by
  simp only [impl_convex.f]
  have h1 := convex_l3 hL hl (t := .mk false ⟨0, 0, 0, 0⟩ []) L.length 0 [] (by omega) (by omega) (by simp) (fun p h => by cases h)
  rw [List.drop_zero, List.nil_append] at h1
  have hk := ks_len L []
  refine h1.ev.bind ?_
  simp only [impl_Leaf.f, Option.bind_some, T1_eq, Tree.inn, Tree.p, Tree.kids]
  have w : W (((ks [] L).length : Int) - 1) = ((ks [] L).length : Int) - 1 := W_id (by omega) (by omega)
  rw [w]
  have h2 := convex_l10 (path := ks [] L) (t := .mk false ⟨0, 0, 0, 0⟩ []) (by omega) (ks [] L).length (Nat.le_refl _)
  rw [List.drop_length] at h2
  refine h2.ev.bind (.now fun _ => ?_)
  exact congrArg some (T1_eq (bt (ks [] L)))
theorem l8Path_f (k : Nat) {L : List S4} {p : S4} (h : L.length ≤ 2097152) : spec_l8Path.f k L p = some (L ++ [p]) := by
  simp only [spec_l8Path.f, List.nil_append, List.length_nil, List.length_append, List.length_cons]
  rw [if_pos (lt47_ok (by omega)), if_pos (lt47_ok (by omega))]
theorem sconvex_l2 {n : Nat} (ihn : ∀ (L path : List S4), L.length ≤ n → (∀ p ∈ L, okp p = true) → (∀ p ∈ path, okp p = true) → L.length + path.length ≤ 2097152 → (∀ pre p suf, L = pre ++ p :: suf → wl (path ++ ks path pre) p = false) → Ev (fun k => spec_l9Convex.f k L path) (bt (ks path L)))
    {L path : List S4} (hn : L.length ≤ n + 1) (hL : ∀ p ∈ L, okp p = true) (hP : ∀ p ∈ path, okp p = true) (hl : L.length + path.length ≤ 2097152) (hi0 : ∀ pre p suf, L = pre ++ p :: suf → wl (path ++ ks path pre) p = false) {t : Tree} : ∀ (d i : Nat), L.length - i = d → i ≤ L.length → ks path (L.take i) = [] →
    Lv (fun k m => spec_l9Convex.l2 k (spec_l9Convex.f k) m L path (i : Int) t) (if ks path (L.drop i) = [] then .inr (((), ()), (t, ())) else .inl (((), ()), (bt (ks path (L.drop i)), ()))) := by
  intro d
  induction d with
  | zero =>
    intro i hd hi hk
    refine Lv.step (g := fun k m => spec_l9Convex.s2 k (spec_l9Convex.f k) (spec_l9Convex.l2 k (spec_l9Convex.f k) m) L path (i : Int) t) ?_ (fun _ _ => rfl)
    simp only [spec_l9Convex.s2, decide_eq_true_eq, if_neg (show ¬ (i : Int) < (L.length : Int) by omega), T1_eq]
    rw [List.drop_eq_nil_of_le (by omega), ks, if_pos rfl]
    exact .now fun _ _ => rfl
  | succ d ih =>
    intro i hd hi hk
    have hi' : i < L.length := by omega
    have hp : okp (rd L (i : Int)) = true := by rw [rd_in hi']; exact hL _ (List.getElem_mem _)
    have hwp : wl path (rd L (i : Int)) = false := by
      have := hi0 (L.take i) (rd L (i : Int)) (L.drop (i + 1)) (by rw [rd_in hi', List.getElem_cons_drop hi', List.take_append_drop])
      rw [hk, List.append_nil] at this; exact this
    have w1 := wrn hi' (show L.length ≤ 2097152 by omega)
    refine Lv.step (g := fun k m => spec_l9Convex.s2 k (spec_l9Convex.f k) (spec_l9Convex.l2 k (spec_l9Convex.f k) m) L path (i : Int) t) ?_ (fun _ _ => rfl)
    simp only [spec_l9Convex.s2, decide_eq_true_eq, if_pos (show (i : Int) < (L.length : Int) by omega), if_pos (Int.natCast_nonneg _), l3Flip_f _ (okp_bd4 hp), Option.bind_some, T1_eq, w1, Int.toNat_natCast, if_pos (show ((i + 1 : Nat) : Int) ≤ (L.length : Int) by omega), l8Path_f _ (show path.length ≤ 2097152 by omega), spec_Leaf.f, spec_l8Node.f]
    refine Lv.bind (l6With_ev hP (okp_bd4 (flp_ok hp)) (by omega)) ?_
    have tk : L.take (i + 1) = L.take i ++ [rd L (i : Int)] := by rw [List.take_succ_eq_append_getElem hi', rd_in hi']
    rw [← List.getElem_cons_drop hi', ks, ← rd_in hi']
    cases c : wl path (flp (rd L (i : Int))) with
    | true =>
      simp only [Bool.not_true, Bool.false_eq_true, if_false, if_true]
      refine ih (i + 1) (by omega) (by omega) ?_
      have key : ∀ (A : List S4), ks path A = [] → ks path (A ++ [rd L (i : Int)]) = [] := by
        intro A
        induction A with
        | nil => intro _; simp [ks, c]
        | cons x A ihA =>
          intro h
          rw [List.cons_append]
          unfold ks at h ⊢
          split at h
          · rename_i hx; rw [if_pos hx]; exact ihA h
          · cases h
      rw [tk]; exact key _ hk
    | false =>
      simp only [Bool.not_false, if_true, Bool.false_eq_true, if_false]
      refine Lv.bind (l6With_ev hP (okp_bd4 hp) (by omega)) ?_
      rw [hwp]
      simp only [Bool.not_false, if_true]
      rw [if_neg (by simp), bt]
      refine Lv.bind (f := fun k => spec_l9Convex.f k _ _) (ihn (L.drop (i + 1)) (path ++ [rd L (i : Int)]) (by rw [List.length_drop]; omega) (fun q hq => hL q (List.mem_of_mem_drop hq)) (fun q hq => ?_) (by rw [List.length_drop, List.length_append, List.length_singleton]; omega) (fun pre p suf e => ?_)) (.now fun _ _ => rfl)
      · rcases List.mem_append.1 hq with hq | hq
        · exact hP q hq
        · simp only [List.mem_singleton] at hq; subst hq; exact hp
      · have := hi0 (L.take i ++ rd L (i : Int) :: pre) p suf (by
          rw [List.append_assoc, List.cons_append, ← e, rd_in hi', List.getElem_cons_drop hi', List.take_append_drop])
        have key : ∀ (A : List S4), ks path A = [] → ks path (A ++ rd L (i : Int) :: pre) = rd L (i : Int) :: ks (path ++ [rd L (i : Int)]) pre := by
          intro A
          induction A with
          | nil => intro _; simp [ks, c]
          | cons x A ihA =>
            intro h
            rw [List.cons_append]
            unfold ks at h
            split at h
            · rename_i hx
              conv => lhs; unfold ks
              rw [if_pos hx]; exact ihA h
            · cases h
        rw [key _ hk] at this
        rw [List.append_assoc]; exact this
theorem sconvex_ev : ∀ (n : Nat) (L path : List S4), L.length ≤ n → (∀ p ∈ L, okp p = true) → (∀ p ∈ path, okp p = true) → L.length + path.length ≤ 2097152 → (∀ pre p suf, L = pre ++ p :: suf → wl (path ++ ks path pre) p = false) → Ev (fun k => spec_l9Convex.f k L path) (bt (ks path L)) := by
  have fin : ∀ (n : Nat) (L path : List S4), Lv (fun k m => spec_l9Convex.l2 k (spec_l9Convex.f k) m L path ((0 : Nat) : Int) (.mk false ⟨0, 0, 0, 0⟩ [])) (if ks path (L.drop 0) = [] then .inr (((), ()), (.mk false ⟨0, 0, 0, 0⟩ [], ())) else .inl (((), ()), (bt (ks path (L.drop 0)), ()))) → Ev (fun k => spec_l9Convex.f k L path) (bt (ks path L)) := fun n L path h => by
    rw [List.drop_zero] at h
    refine Ev.succ (g := fun k => spec_l9Convex.fs k (spec_l9Convex.f k) L path) ?_ (fun k => spec_l9Convex.fS k L path)
    simp only [spec_l9Convex.fs, spec_Leaf.f, Option.bind_some, T1_eq]
    refine Ev.bind h.ev ?_
    by_cases c : ks path L = []
    · rw [if_pos c, c]; exact .now fun _ => rfl
    · rw [if_neg c]; exact .now fun _ => rfl
  intro n
  induction n with
  | zero =>
    intro L path hn hL hP hl hi
    obtain rfl : L = [] := List.eq_nil_of_length_eq_zero (by omega)
    refine fin 0 [] path ?_
    refine Lv.step (g := fun k m => spec_l9Convex.s2 k (spec_l9Convex.f k) (spec_l9Convex.l2 k (spec_l9Convex.f k) m) [] path ((0 : Nat) : Int) (.mk false ⟨0, 0, 0, 0⟩ [])) ?_ (fun _ _ => rfl)
    exact .now fun _ _ => rfl
  | succ n ih =>
    intro L path hn hL hP hl hi
    exact fin n L path (sconvex_l2 ih hn hL hP hl hi L.length 0 (by omega) (by omega) rfl)
def cvV (L : List S4) : Tree × Int × Unit := if (L.all okp && decide (L.length ≤ 24)) = true then (if opn L = true then (bt (ks [] L), 0, ()) else (lfT false, 2, ())) else (lfT false, 1, ())
theorem iConvex_ev {L : List S4} (hl : L.length ≤ 2097152) : Ev (fun k => impl_Convex.f k L) (cvV L) := by
  simp only [impl_Convex.f, decide_eq_true_eq, T1_eq]
  unfold cvV
  by_cases h24 : L.length ≤ 24
  · simp only [if_neg (show ¬ (L.length : Int) > 24 by omega), decide_eq_true h24, Bool.and_true]
    refine Ev.bind (planesOk_ev hl) ?_
    cases ha : L.all okp with
    | false => exact .now fun _ => rfl
    | true =>
      have hL : ∀ p ∈ L, okp p = true := fun p hp => List.all_eq_true.1 ha p hp
      simp only [Bool.not_true, Bool.false_eq_true, if_false, if_true]
      refine Ev.bind (open_ev hL hl) ?_
      cases ho : opn L with
      | false => exact .now fun _ => rfl
      | true =>
        simp only [Bool.not_true, Bool.false_eq_true, if_false, if_true]
        exact Ev.bind (iconvex_ev hL hl) (.now fun _ => rfl)
  · simp only [if_pos (show (L.length : Int) > 24 by omega), decide_eq_false h24, Bool.and_false, Bool.false_eq_true, if_false]
    exact .now fun _ => rfl
theorem sConvex_ev {L : List S4} (hl : L.length ≤ 2097152) : Ev (fun k => spec_Convex.f k L) (cvV L) := by
  simp only [spec_Convex.f, spec_Leaf.f, Option.bind_some, T1_eq]
  unfold cvV
  refine Ev.bind (l6Right_ev hl) ?_
  cases ha : (L.all okp && decide (L.length ≤ 24)) with
  | false => exact .now fun _ => rfl
  | true =>
    rw [Bool.and_eq_true, decide_eq_true_eq] at ha
    have hL : ∀ p ∈ L, okp p = true := fun p hp => List.all_eq_true.1 ha.1 p hp
    simp only [Bool.not_true, Bool.false_eq_true, if_false, if_true]
    refine Ev.bind (l6Open_ev hL hl) ?_
    cases ho : opn L with
    | false => exact .now fun _ => rfl
    | true =>
      simp only [Bool.not_true, Bool.false_eq_true, if_false, if_true]
      exact Ev.bind (sconvex_ev L.length L [] (Nat.le_refl _) hL (fun p h => by cases h) (by simp; omega) (fun pre p suf e => by rw [List.nil_append]; exact opn_wl ho e)) (.now fun _ => rfl)
theorem cv_tw {L : List S4} (hl : L.length ≤ 2097152) : TW (cvV L).1 ∧ cntL (cvV L).1.kids ≤ 5000000 := by
  have lf : ∀ b, TW (lfT b) ∧ cntL (lfT b).kids ≤ 5000000 := fun b => ⟨lf_tw b, by simp [lfT, Tree.kids, cntL]⟩
  unfold cvV
  split
  · split
    · refine ⟨bt_tw _, ?_⟩
      have h1 := bt_cnt (ks [] L)
      have h2 := ks_len L []
      show cntL (bt (ks [] L)).kids ≤ 5000000
      cases hb : bt (ks [] L) with
      | mk b p l => rw [hb] at h1; simp only [cntT] at h1; show cntL l ≤ 5000000; omega
    · exact lf _
  · exact lf _
theorem FnExactConvex_pure {L : List S4} (hM : L.length ≤ 9223372036854775807) : ∃ k, laws_FnExactConvex.f k L = some true := by
  have key : Ev (fun k => laws_FnExactConvex.f k L) true := by
    have e : W (1048576 - (L.length : Int)) = 1048576 - L.length := W_id (by omega) (by omega)
    simp only [laws_FnExactConvex.f, laws_szPlaneS.f, decide_eq_true_eq, e]
    by_cases c : 1048576 - (L.length : Int) < 0
    · simp only [if_pos c, Option.bind_some, show (-1 : Int) < 0 by omega, if_true]; exact .now fun _ => rfl
    · simp only [if_neg c, Option.bind_some]
      have hl : L.length ≤ 2097152 := by omega
      obtain ⟨hw, hc⟩ := cv_tw hl
      have s1 := sConvex_ev hl
      have s2 := iConvex_ev hl
      generalize cvV L = r at hw hc s1 s2
      obtain ⟨⟨b, q, l⟩, u, ⟨⟩⟩ := r
      simp only [Tree.kids] at hc
      have hb : 1 + 5 * (cntL l : Int) ≤ 4611686018427387904 := by omega
      have eq := eq_ok hw
      have hd := heldSolid_ev (b := b) (p := q) hb
      obtain ⟨r, m1⟩ := markPlaneS_ev hl
      simp only [T1_eq]
      refine (toPlaneS_ev hl).bind (s1.bind ((toPlaneS_ev hl).bind (s2.bind (eq.bind ?_))))
      simp only [Bool.not_true, Bool.false_eq_true, if_false, bne_self_eq_false]
      refine (toPlaneS_ev hl).bind ((eqPlaneS_ev hl).bind ?_)
      simp only [Bool.not_true, Bool.false_eq_true, if_false]
      refine m1.bind ?_
      simp only [if_neg (show ¬ 1 + 4 * (L.length : Int) < 0 by omega)]
      refine eq.bind ?_
      simp only [Bool.not_true, Bool.false_eq_true, if_false, Tree.kids, Tree.inn, Tree.p, markSolid_f _ hb, Option.bind_some]
      refine hd.bind ?_
      simp only [if_neg (show ¬ 1 + 5 * (cntL l : Int) < 0 by omega), bne_self_eq_false, Bool.false_eq_true, if_false]
      refine (toPlaneS_ev hl).bind (s2.bind (eq.bind ?_))
      simp only [Bool.not_true, Bool.false_eq_true, if_false, bne_self_eq_false]
      refine hd.bind (.now fun _ => ?_)
      simp only [if_neg (show ¬ 1 + 5 * (cntL l : Int) < 0 by omega), bne_self_eq_false, Bool.false_eq_true, if_false]
  obtain ⟨K, h⟩ := key
  exact ⟨K, h K (Nat.le_refl _)⟩
end Go.Proofs.Ytlkcpldohlemcaa.Q
