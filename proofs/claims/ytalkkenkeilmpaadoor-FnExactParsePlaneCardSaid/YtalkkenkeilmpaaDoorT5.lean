/- A text read as a plane: both programs read the same. -/
import Derived.Test.YtalkkenkeilmpaaDoorT4
namespace Go.Proofs.YtalkkenkeilmpaaDoor.Q
open Go Go.RowKit Go.Proofs Go.Proofs.YtalkkenkeilmpaaDoor.Ev Go.Proofs.YtalkkenkeilmpaaDoor.G
set_option linter.unusedSimpArgs false
set_option linter.unusedVariables false

def spl : List UInt8 → List (List UInt8)
  | [] => [[]]
  | c :: l => if c = 32 then [] :: spl l else (match spl l with | [] => [[c]] | w :: ws => (c :: w) :: ws)
theorem spl_pre : ∀ (a : List UInt8), (∀ c ∈ a, c ≠ 32) → ∀ b, spl (a ++ 32 :: b) = a :: spl b
  | [], _, b => by rw [List.nil_append, spl, if_pos rfl]
  | c :: a, h, b => by
    rw [List.cons_append, spl, if_neg (h c (by simp)), spl_pre a (fun x hx => h x (List.mem_cons_of_mem _ hx)) b]
theorem spl_all : ∀ (a : List UInt8), (∀ c ∈ a, c ≠ 32) → spl a = [a]
  | [], _ => rfl
  | c :: a, h => by rw [spl, if_neg (h c (by simp)), spl_all a (fun x hx => h x (List.mem_cons_of_mem _ hx))]
theorem spl_mem : ∀ (l : List UInt8) (w : List UInt8), w ∈ spl l → w.length ≤ l.length
  | [], w, h => by simp [spl] at h; subst h; simp
  | c :: l, w, h => by
    rw [spl] at h
    split at h
    · rcases List.mem_cons.1 h with rfl | h
      · simp
      · have := spl_mem l w h; simp only [List.length_cons]; omega
    · have ih := spl_mem l
      split at h
      · simp at h; subst h; simp
      · rename_i w0 ws hq
        rw [hq] at ih
        rcases List.mem_cons.1 h with rfl | h
        · have := ih w0 (by simp); simp only [List.length_cons]; omega
        · have := ih w (List.mem_cons_of_mem _ h); simp only [List.length_cons]; omega
theorem words_l4 {l : List UInt8} (hl : l.length ≤ 1048576) : ∀ (d f i : Nat) (acc : List ByteArray), l.length - i = d → f ≤ i → i ≤ l.length → (∀ c ∈ (l.take i).drop f, c ≠ 32) → acc.length ≤ i →
    Lv (fun k n => spec_l3Words.l4 k n (mkS l) (f : Int) (i : Int) acc) (((), ()), (acc ++ (spl (l.drop f)).map mkS, ())) := by
  intro d
  induction d with
  | zero =>
    intro f i acc hd hf hi hn ha
    have hie : i = l.length := by omega
    subst hie
    rw [List.take_length] at hn
    have w : W ((l.length : Int) + 1) = ((l.length + 1 : Nat) : Int) := by rw [W_id (by omega) (by omega)]; omega
    refine Lv.step (g := fun k n => spec_l3Words.s4 k (spec_l3Words.l4 k n) (mkS l) (f : Int) (l.length : Int) acc) ?_ (fun _ _ => rfl)
    simp only [spec_l3Words.s4, mkS_size, decide_eq_true_eq, Int.le_refl, if_true, beq_self_eq_true, if_pos (Int.natCast_nonneg f), if_pos (show (f : Int) ≤ (l.length : Int) by omega), Int.toNat_natCast, mkS_sub, List.take_length, w, List.length_cons, List.length_nil, if_pos (lt47_of (show acc.length + (0 + 1) < 2199023255552 by omega))]
    refine Lv.step (g := fun k n => spec_l3Words.s4 k (spec_l3Words.l4 k n) (mkS l) ((l.length + 1 : Nat) : Int) ((l.length + 1 : Nat) : Int) (acc ++ [mkS (l.drop f)])) ?_ (fun _ _ => rfl)
    simp only [spec_l3Words.s4, mkS_size, decide_eq_true_eq, if_neg (show ¬ ((l.length + 1 : Nat) : Int) ≤ (l.length : Int) by omega)]
    rw [spl_all _ hn]
    exact .now fun _ _ => rfl
  | succ d ih =>
    intro f i acc hd hf hi hn ha
    have hi' : i < l.length := by omega
    have w : W ((i : Int) + 1) = ((i + 1 : Nat) : Int) := by rw [W_id (by omega) (by omega)]; omega
    have gd : l.getD i 0 = l[i] := by simp [List.getD_eq_getElem?_getD, hi']
    have tk : l.take (i + 1) = l.take i ++ [l[i]] := List.take_succ_eq_append_getElem hi'
    have hdr : l.drop f = (l.take i).drop f ++ l[i] :: l.drop (i + 1) := by
      have h1 : l.drop f = (l.take i ++ l.drop i).drop f := by rw [List.take_append_drop]
      rw [h1, List.drop_append_of_le_length (by rw [List.length_take]; omega), List.drop_eq_getElem_cons hi']
    refine Lv.step (g := fun k n => spec_l3Words.s4 k (spec_l3Words.l4 k n) (mkS l) (f : Int) (i : Int) acc) ?_ (fun _ _ => rfl)
    simp only [spec_l3Words.s4, mkS_size, decide_eq_true_eq, if_pos (show (i : Int) ≤ (l.length : Int) by omega), eq_iff, if_neg (show ¬ (i : Int) = (l.length : Int) by omega), if_pos (Int.natCast_nonneg i), Int.toNat_natCast, if_pos hi', mkS_at, gd]
    by_cases c : l[i] = 32
    · have ci : ((l[i].toNat : Nat) : Int) = 32 := by rw [c]; rfl
      simp only [if_pos ci, if_pos (Int.natCast_nonneg f), if_pos (show (f : Int) ≤ (i : Int) by omega), Int.toNat_natCast, mkS_sub, w, List.length_cons, List.length_nil, if_pos (lt47_of (show acc.length + (0 + 1) < 2199023255552 by omega))]
      have := ih (i + 1) (i + 1) (acc ++ [mkS ((l.take i).drop f)]) (by omega) (Nat.le_refl _) (by omega) (by rw [List.drop_eq_nil_of_le (by rw [List.length_take]; omega)]; intro c hc; cases hc) (by rw [List.length_append]; simp; omega)
      rw [hdr, c, spl_pre _ hn, List.map_cons]
      rw [List.append_assoc] at this
      exact this
    · have ci : ¬ ((l[i].toNat : Nat) : Int) = 32 := fun e => c (by
        apply UInt8.toNat_inj.1
        have : (32 : UInt8).toNat = 32 := rfl
        omega)
      simp only [if_neg ci, w]
      exact ih f (i + 1) acc (by omega) (by omega) (by omega) (fun x hx => by
        rw [tk, List.drop_append_of_le_length (by rw [List.length_take]; omega)] at hx
        rcases List.mem_append.1 hx with hx | hx
        · exact hn x hx
        · simp only [List.mem_singleton] at hx; rw [hx]; exact c) (by omega)
theorem words_ev {l : List UInt8} (hl : l.length ≤ 1048576) : Ev (fun k => spec_l3Words.f k (mkS l)) ((spl l).map mkS) := by
  unfold spec_l3Words.f
  have := words_l4 hl l.length 0 0 [] (by omega) (Nat.le_refl _) (Nat.zero_le _) (by simp) (by simp)
  rw [List.drop_zero, List.nil_append] at this
  exact this.ev.bind (.now fun _ => rfl)
theorem ixB_hit : ∀ (a b : List UInt8), (∀ c ∈ a, c ≠ 32) → Lib.indexByte (a ++ 32 :: b) 32 = (a.length : Int)
  | [], b, _ => by simp [Lib.indexByte]
  | c :: a, b, h => by
    have hc : (c == 32) = false := by rw [beq_eq_false_iff_ne]; exact h c (by simp)
    have ih := ixB_hit a b (fun x hx => h x (List.mem_cons_of_mem _ hx))
    rw [List.cons_append, Lib.indexByte, hc, ih]
    simp only [Bool.false_eq_true, if_false, List.length_cons]
    rw [if_neg (by rw [beq_iff_eq]; omega)]; omega
theorem ixB_miss : ∀ (a : List UInt8), (∀ c ∈ a, c ≠ 32) → Lib.indexByte a 32 = -1
  | [], _ => rfl
  | c :: a, h => by
    have hc : (c == 32) = false := by rw [beq_eq_false_iff_ne]; exact h c (by simp)
    rw [Lib.indexByte, hc, ixB_miss a (fun x hx => h x (List.mem_cons_of_mem _ hx))]; rfl
theorem split_spl : ∀ (n : Nat) (l : List UInt8), l.length ≤ n → Lib.splitK [32] 0 (Lib.count l [32]) l = spl l := by
  intro n
  induction n with
  | zero =>
    intro l hl
    have : l = [] := List.eq_nil_of_length_eq_zero (by omega)
    subst this
    rfl
  | succ n ih =>
    intro l hl
    by_cases h : (32 : UInt8) ∈ l
    · obtain ⟨a, b, rfl, ha⟩ := List.eq_append_cons_of_mem h
      have ha' : ∀ c ∈ a, c ≠ 32 := fun c hc e => ha (e ▸ hc)
      have hix : Lib.index (a ++ 32 :: b) [32] = ((a.length : Nat) : Int) := by rw [Lib.index_one]; exact ixB_hit a b ha'
      have hd : (a ++ 32 :: b).drop (a.length + 1) = b := by simp
      have hd' : (a ++ 32 :: b).drop (a.length + [(32 : UInt8)].length) = b := hd
      rw [spl_pre a ha' b, Lib.count_hit (by simp) hix, hd', Nat.add_comm 1, Lib.splitK, hix, if_neg (by rw [beq_iff_eq]; omega), Int.toNat_natCast, Nat.add_zero, List.take_left', hd', ih b (by simp only [List.length_append, List.length_cons] at hl; omega)]
      rfl
    · have ha' : ∀ c ∈ l, c ≠ 32 := fun c hc e => h (e ▸ hc)
      have hix : Lib.index l [32] = -1 := by rw [Lib.index_one]; exact ixB_miss l ha'
      rw [spl_all l ha', Lib.count_miss hix, Lib.splitK]
theorem split_f (k : Nat) {l : List UInt8} (hl : l.length ≤ 1048576) : strings_Split.f k (mkS l) (⟨#[32]⟩ : ByteArray) = some ((spl l).map mkS) := by
  unfold strings_Split.f
  have e : Lib.splitB (⟨#[32]⟩ : ByteArray) 0 (Lib.countB (mkS l) (⟨#[32]⟩ : ByteArray)) (mkS l) = (spl l).map mkS := by
    have h1 := Lib.splitB_data (⟨#[32]⟩ : ByteArray) 0 (Lib.countB (mkS l) (⟨#[32]⟩ : ByteArray)) (mkS l)
    have h2 : Lib.splitK (⟨#[32]⟩ : ByteArray).data.toList 0 (Lib.countB (mkS l) (⟨#[32]⟩ : ByteArray)) (mkS l).data.toList = spl l := by
      have h3 : Lib.countB (mkS l) (⟨#[32]⟩ : ByteArray) = Lib.count l [32] := by
        show Lib.count (mkS l).data.toList [32] = _
        rw [mkS_data]
      rw [h3, mkS_data]
      exact split_spl _ l (Nat.le_refl _)
    rw [h2] at h1
    rw [← h1, List.map_map]
    have : (mkS ∘ fun x : ByteArray => x.data.toList) = id := funext fun b => (mkS_self b).symm
    rw [this, List.map_id]
  rw [e, if_pos ⟨by rw [mkS_size]; omega, by decide⟩]

/-! ### four words -/
theorem sOk {ws : List ByteArray} {i : Nat} (h4 : i < 4) (hi : i < ws.length) {w : List UInt8} (hw : ws.getD i default = mkS w) {n : Int} (hn : numW w = some n) {acc : List Int} (ha : acc.length ≤ 10) {b2 : S4} {r : spec_ParsePlane.B6} (h : Lv (fun k m => spec_ParsePlane.l6 k m ((i + 1 : Nat) : Int) b2 ws (acc ++ [n])) r) :
    Lv (fun k m => spec_ParsePlane.l6 k m (i : Int) b2 ws acc) r := by
  obtain ⟨q, e1, e2, e3⟩ := l3Int_ev w
  rw [hn] at e2
  have e3 := e3 n hn
  have w1 : W ((i : Int) + 1) = ((i + 1 : Nat) : Int) := by rw [W_id (by omega) (by omega)]; omega
  refine Lv.step (g := fun k m => spec_ParsePlane.s6 k (spec_ParsePlane.l6 k m) (i : Int) b2 ws acc) ?_ (fun _ _ => rfl)
  simp only [spec_ParsePlane.s6, decide_eq_true_eq, if_pos (show (i : Int) < 4 by omega), if_pos (Int.natCast_nonneg i), if_pos (show (i : Int) < (ws.length : Int) by omega), Int.toNat_natCast, if_pos hi, hw]
  refine Lv.bind e1 ?_
  simp only [e2, e3, Option.isSome_some, Bool.not_true, Bool.false_eq_true, if_false, List.length_cons, List.length_nil, if_pos (lt47_of (show acc.length + (0 + 1) < 2199023255552 by omega)), w1]
  exact h
theorem sNo {ws : List ByteArray} {i : Nat} (h4 : i < 4) (hi : i < ws.length) {w : List UInt8} (hw : ws.getD i default = mkS w) (hn : numW w = none) {acc : List Int} {b2 : S4} :
    Lv (fun k m => spec_ParsePlane.l6 k m (i : Int) b2 ws acc) (.inl (((), false, ()), ((⟨0, 0, 0, 0⟩ : S4), ()))) := by
  obtain ⟨q, e1, e2, e3⟩ := l3Int_ev w
  rw [hn] at e2
  refine Lv.step (g := fun k m => spec_ParsePlane.s6 k (spec_ParsePlane.l6 k m) (i : Int) b2 ws acc) ?_ (fun _ _ => rfl)
  simp only [spec_ParsePlane.s6, decide_eq_true_eq, if_pos (show (i : Int) < 4 by omega), if_pos (Int.natCast_nonneg i), if_pos (show (i : Int) < (ws.length : Int) by omega), Int.toNat_natCast, if_pos hi, hw]
  refine Lv.bind e1 ?_
  simp only [e2, Option.isSome_none, Bool.not_false, if_true]
  exact .now fun _ _ => rfl
theorem sEnd {ws : List ByteArray} {acc : List Int} {b2 : S4} : Lv (fun k m => spec_ParsePlane.l6 k m ((4 : Nat) : Int) b2 ws acc) (.inr (((), (), ()), (b2, acc, ()))) := by
  refine Lv.step (g := fun k m => spec_ParsePlane.s6 k (spec_ParsePlane.l6 k m) ((4 : Nat) : Int) b2 ws acc) ?_ (fun _ _ => rfl)
  simp only [spec_ParsePlane.s6, decide_eq_true_eq, if_neg (show ¬ ((4 : Nat) : Int) < 4 by omega)]
  exact .now fun _ _ => rfl
theorem iNo {ws : List ByteArray} {i : Nat} (h4 : i < 4) (hi : i < ws.length) {w : List UInt8} (hw : ws.getD i default = mkS w) (hl : w.length ≤ 1048576) (hn : numW w = none) {b2 b5 : S4} :
    Lv (fun k m => impl_ParsePlane.l6 k m 4 (i : Int) b2 b5 ws) (.inl (((), false, ()), ((⟨0, 0, 0, 0⟩ : S4), ()))) := by
  have e1 := numberOf_ev hl
  rw [hn] at e1
  refine Lv.step (g := fun k m => impl_ParsePlane.s6 k (impl_ParsePlane.l6 k m) 4 (i : Int) b2 b5 ws) ?_ (fun _ _ => rfl)
  simp only [impl_ParsePlane.s6, decide_eq_true_eq, if_pos (show (i : Int) < 4 by omega), if_pos (Int.natCast_nonneg i), if_pos (show (i : Int) < (ws.length : Int) by omega), Int.toNat_natCast, if_pos hi, hw]
  refine Lv.bind e1 ?_
  simp only [Bool.not_false, if_true]
  exact .now fun _ _ => rfl
def put4 (p : S4) (i : Nat) (n : Int) : S4 := if i = 0 then ⟨n, p.b, p.c, p.d⟩ else if i = 1 then ⟨p.a, n, p.c, p.d⟩ else if i = 2 then ⟨p.a, p.b, n, p.d⟩ else ⟨p.a, p.b, p.c, n⟩
theorem iOk {ws : List ByteArray} {i : Nat} (h4 : i < 4) (hi : i < ws.length) {w : List UInt8} (hw : ws.getD i default = mkS w) (hl : w.length ≤ 1048576) {n : Int} (hn : numW w = some n) {b2 b5 : S4} {r : impl_ParsePlane.B6} (h : Lv (fun k m => impl_ParsePlane.l6 k m 4 ((i + 1 : Nat) : Int) b2 (put4 b5 i n) ws) r) :
    Lv (fun k m => impl_ParsePlane.l6 k m 4 (i : Int) b2 b5 ws) r := by
  have e1 := numberOf_ev hl
  rw [hn] at e1
  have w1 : W ((i : Int) + 1) = ((i + 1 : Nat) : Int) := by rw [W_id (by omega) (by omega)]; omega
  refine Lv.step (g := fun k m => impl_ParsePlane.s6 k (impl_ParsePlane.l6 k m) 4 (i : Int) b2 b5 ws) ?_ (fun _ _ => rfl)
  simp only [impl_ParsePlane.s6, decide_eq_true_eq, if_pos (show (i : Int) < 4 by omega), if_pos (Int.natCast_nonneg i), if_pos (show (i : Int) < (ws.length : Int) by omega), Int.toNat_natCast, if_pos hi, hw]
  refine Lv.bind e1 ?_
  simp only [Bool.not_true, Bool.false_eq_true, if_false, w1]
  unfold put4 at h
  match i, h4 with
  | 0, _ => simpa using h
  | 1, _ => simpa using h
  | 2, _ => simpa using h
  | 3, _ => simpa using h
theorem iEnd {ws : List ByteArray} {b2 b5 : S4} : Lv (fun k m => impl_ParsePlane.l6 k m 4 ((4 : Nat) : Int) b2 b5 ws) (.inr (((), (), ()), (b2, b5, ()))) := by
  refine Lv.step (g := fun k m => impl_ParsePlane.s6 k (impl_ParsePlane.l6 k m) 4 ((4 : Nat) : Int) b2 b5 ws) ?_ (fun _ _ => rfl)
  simp only [impl_ParsePlane.s6, decide_eq_true_eq, if_neg (show ¬ ((4 : Nat) : Int) < 4 by omega)]
  exact .now fun _ _ => rfl
def z4' : S4 := ⟨0, 0, 0, 0⟩
/-- the plane of four words. -/
def pl4 (w0 w1 w2 w3 : List UInt8) : Option S4 := match numW w0, numW w1, numW w2, numW w3 with
  | some a, some b, some c, some d => some ⟨a, b, c, d⟩
  | _, _, _, _ => none
theorem sLoop (w0 w1 w2 w3 : List UInt8) (b2 : S4) : Lv (fun k m => spec_ParsePlane.l6 k m 0 b2 [mkS w0, mkS w1, mkS w2, mkS w3] []) (match pl4 w0 w1 w2 w3 with | some p => .inr (((), (), ()), (b2, [p.a, p.b, p.c, p.d], ())) | none => .inl (((), false, ()), ((⟨0, 0, 0, 0⟩ : S4), ()))) := by
  unfold pl4
  cases h0 : numW w0 with
  | none => exact sNo (i := 0) (by omega) (by simp) (w := w0) rfl h0
  | some a =>
    refine sOk (i := 0) (by omega) (by simp) (w := w0) rfl h0 (by simp) ?_
    cases h1 : numW w1 with
    | none => exact sNo (i := 1) (by omega) (by simp) (w := w1) rfl h1
    | some b =>
      refine sOk (i := 1) (by omega) (by simp) (w := w1) rfl h1 (by simp) ?_
      cases h2 : numW w2 with
      | none => exact sNo (i := 2) (by omega) (by simp) (w := w2) rfl h2
      | some c =>
        refine sOk (i := 2) (by omega) (by simp) (w := w2) rfl h2 (by simp) ?_
        cases h3 : numW w3 with
        | none => exact sNo (i := 3) (by omega) (by simp) (w := w3) rfl h3
        | some d => exact sOk (i := 3) (by omega) (by simp) (w := w3) rfl h3 (by simp) sEnd
theorem iLoop (w0 w1 w2 w3 : List UInt8) (l0 : w0.length ≤ 1048576) (l1 : w1.length ≤ 1048576) (l2 : w2.length ≤ 1048576) (l3 : w3.length ≤ 1048576) (b2 : S4) : Lv (fun k m => impl_ParsePlane.l6 k m 4 0 b2 (⟨0, 0, 0, 0⟩ : S4) [mkS w0, mkS w1, mkS w2, mkS w3]) (match pl4 w0 w1 w2 w3 with | some p => .inr (((), (), ()), (b2, p, ())) | none => .inl (((), false, ()), ((⟨0, 0, 0, 0⟩ : S4), ()))) := by
  unfold pl4
  cases h0 : numW w0 with
  | none => exact iNo (i := 0) (by omega) (by simp) (w := w0) rfl l0 h0
  | some a =>
    refine iOk (i := 0) (by omega) (by simp) (w := w0) rfl l0 h0 ?_
    cases h1 : numW w1 with
    | none => exact iNo (i := 1) (by omega) (by simp) (w := w1) rfl l1 h1
    | some b =>
      refine iOk (i := 1) (by omega) (by simp) (w := w1) rfl l1 h1 ?_
      cases h2 : numW w2 with
      | none => exact iNo (i := 2) (by omega) (by simp) (w := w2) rfl l2 h2
      | some c =>
        refine iOk (i := 2) (by omega) (by simp) (w := w2) rfl l2 h2 ?_
        cases h3 : numW w3 with
        | none => exact iNo (i := 3) (by omega) (by simp) (w := w3) rfl l3 h3
        | some d => exact iOk (i := 3) (by omega) (by simp) (w := w3) rfl l3 h3 iEnd
/-- what a text is read as. -/
def ppV (l : List UInt8) : S4 × Bool × Unit := match spl l with
  | [w0, w1, w2, w3] => (match pl4 w0 w1 w2 w3 with | some p => if okp p = true then (p, true, ()) else (z4', false, ()) | none => (z4', false, ()))
  | _ => (z4', false, ())
theorem len4 {α : Type} {l : List α} (h : l.length = 4) : ∃ a b c d, l = [a, b, c, d] := by
  match l, h with
  | [a, b, c, d], _ => exact ⟨a, b, c, d, rfl⟩
theorem ppV_no {l : List UInt8} (h : ¬ (spl l).length = 4) : ppV l = (z4', false, ()) := by
  unfold ppV
  split
  · rename_i hq; rw [hq] at h; exact absurd rfl h
  · rfl
theorem if_neg_ev {α : Type} {c : Prop} [Decidable c] (h : ¬ c) {f g : Nat → Option α} {r : α} : Ev (fun k => if c then f k else g k) r = Ev g r := by simp only [if_neg h]
theorem sPP_ev {l : List UInt8} (hl : l.length ≤ 1048576) : Ev (fun k => spec_ParsePlane.f k (mkS l)) (ppV l) := by
  unfold spec_ParsePlane.f
  refine (words_ev hl).bind ?_
  simp only [List.length_map, ne_iff]
  by_cases c : (spl l).length = 4
  · obtain ⟨w0, w1, w2, w3, hq⟩ := len4 c
    have e : ppV l = (match pl4 w0 w1 w2 w3 with | some p => if okp p = true then (p, true, ()) else (z4', false, ()) | none => (z4', false, ())) := by unfold ppV; rw [hq]
    rw [e, hq]
    simp only [List.map_cons, List.map_nil, List.length_cons, List.length_nil]
    rw [if_neg_ev (by decide)]
    refine (sLoop w0 w1 w2 w3 _).ev.bind ?_
    cases hp : pl4 w0 w1 w2 w3 with
    | none => exact .now fun _ => rfl
    | some p =>
      simp only [List.length_cons, List.length_nil, Int.le_refl, if_true, List.getD_eq_getElem?_getD]
      have gp : (⟨p.a, p.b, p.c, p.d⟩ : S4) = p := rfl
      refine Ev.bind (f := fun k => spec_PlaneOk.f k p) (a := okp p) (spec_PlaneOk_ev p) ?_
      cases ho : okp p with
      | false => exact .now fun _ => rfl
      | true => exact .now fun _ => rfl
  · rw [ppV_no c]
    have ci : ¬ (((spl l).length : Nat) : Int) = 4 := by omega
    simp only [ne_eq, ci, not_false_eq_true, if_true]
    exact .now fun _ => rfl
theorem iPP_ev {l : List UInt8} (hl : l.length ≤ 1048576) : Ev (fun k => impl_ParsePlane.f k (mkS l)) (ppV l) := by
  unfold impl_ParsePlane.f
  simp only [split_f _ hl, Option.bind_some, List.length_map, ne_iff]
  by_cases c : (spl l).length = 4
  · obtain ⟨w0, w1, w2, w3, hq⟩ := len4 c
    have e : ppV l = (match pl4 w0 w1 w2 w3 with | some p => if okp p = true then (p, true, ()) else (z4', false, ()) | none => (z4', false, ())) := by unfold ppV; rw [hq]
    have hm : ∀ w ∈ [w0, w1, w2, w3], w.length ≤ 1048576 := fun w hw => by have := spl_mem l w (hq ▸ hw); omega
    rw [e, hq]
    simp only [List.map_cons, List.map_nil, List.length_cons, List.length_nil]
    rw [if_neg_ev (by decide)]
    refine (iLoop w0 w1 w2 w3 (hm _ (by simp)) (hm _ (by simp)) (hm _ (by simp)) (hm _ (by simp)) _).ev.bind ?_
    cases hp : pl4 w0 w1 w2 w3 with
    | none => exact .now fun _ => rfl
    | some p =>
      show Ev _ (if okp p = true then (p, true, ()) else (z4', false, ()))
      refine (impl_PlaneOk_ev p).bind ?_
      cases ho : okp p with
      | false => exact .now fun _ => rfl
      | true => exact .now fun _ => rfl
  · rw [ppV_no c]
    have ci : ¬ (((spl l).length : Nat) : Int) = 4 := by omega
    simp only [ne_eq, ci, not_false_eq_true, if_true]
    exact .now fun _ => rfl
theorem dec_str (b : ByteArray) : aStr.dec (aStr.enc b) = some b := rfl
theorem rep_str {w : World} {A : Nat → Prop} (b : ByteArray) : Rep w A (.string b) (aStr.enc b) := Rep.v _
theorem eqPlane_self4 (k : Nat) (p : S4) : laws_eqPlane.f k p p = some true := by simp [laws_eqPlane.f]
theorem FnExactParsePlane_pure (s : ByteArray) : ∃ k, laws_FnExactParsePlane.f k s = some true := by
  have key : Ev (fun k => laws_FnExactParsePlane.f k s) true := by
    rw [mkS_self s]
    generalize s.data.toList = l
    simp only [laws_FnExactParsePlane.f, mkS_size, decide_eq_true_eq]
    by_cases c : (l.length : Int) > 1048576
    · simp only [if_pos c]; exact .now fun _ => rfl
    · simp only [if_neg c]
      refine (sPP_ev (by omega)).bind ((iPP_ev (by omega)).bind ?_)
      simp only [eqPlane_self4, Option.bind_some, Bool.not_true, Bool.false_eq_true, if_false, beq_self_eq_true]
      exact .now fun _ => rfl
  obtain ⟨K, h⟩ := key
  exact ⟨K, h K (Nat.le_refl _)⟩
end Go.Proofs.YtalkkenkeilmpaaDoor.Q
