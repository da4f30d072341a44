/- Picked out of other texts. -/
import Derived.Test.YtalkkenkeilmpaaGreatZ2
namespace Go.Proofs.YtalkkenkeilmpaaGreat.Q
open Go Go.RowKit Go.Proofs Go.Proofs.YtalkkenkeilmpaaGreat.Ev Go.Proofs.YtalkkenkeilmpaaGreat.G
set_option linter.unusedSimpArgs false
set_option linter.unusedVariables false

set_option linter.unusedSimpArgs false
set_option linter.unusedVariables false
structure Ord (P : Program) (g : Nat) (ok : S4 → Bool) (cf : S4 → S4 → Int) (l : List S4) : Prop where
  ok : ∀ x ∈ l, ok x = true
  up : l.Pairwise fun x y => cf x y < 0
section
variable {P : Program} {g : Nat} {ok : S4 → Bool} {cf : S4 → S4 → Int} (hc : CmpOk P g ok cf)
include hc
theorem asym {x y : S4} (hx : ok x = true) (hy : ok y = true) (h : cf x y < 0) : ¬ cf y x < 0 := fun h2 => hc.irr x hx (hc.tr x y x hx hy hx h h2)
theorem ord_eq : ∀ {l m : List S4}, Ord P g ok cf l → Ord P g ok cf m → (∀ x, x ∈ l ↔ x ∈ m) → l = m
  | [], [], _, _, _ => rfl
  | [], y :: m, _, _, h => by have := (h y).2 (by simp); cases this
  | x :: l, [], _, _, h => by have := (h x).1 (by simp); cases this
  | x :: l, y :: m, hl, hm, h => by
    have hl1 := List.pairwise_cons.1 hl.up
    have hm1 := List.pairwise_cons.1 hm.up
    have ox := hl.ok x (by simp); have oy := hm.ok y (by simp)
    have e : x = y := by
      rcases List.mem_cons.1 ((h x).1 (by simp)) with e | hx
      · exact e
      rcases List.mem_cons.1 ((h y).2 (by simp)) with e | hy
      · exact e.symm
      exact absurd (hl1.1 y hy) (asym hc oy ox (hm1.1 x hx))
    subst e
    congr 1
    refine ord_eq ⟨fun z hz => hl.ok z (List.mem_cons_of_mem _ hz), hl1.2⟩ ⟨fun z hz => hm.ok z (List.mem_cons_of_mem _ hz), hm1.2⟩ fun z => ⟨fun hz => ?_, fun hz => ?_⟩
    · rcases List.mem_cons.1 ((h z).1 (List.mem_cons_of_mem _ hz)) with e | hz'
      · exact absurd (hl1.1 z hz) (by rw [e]; exact hc.irr x ox)
      · exact hz'
    · rcases List.mem_cons.1 ((h z).2 (List.mem_cons_of_mem _ hz)) with e | hz'
      · exact absurd (hm1.1 z hz) (by rw [e]; exact hc.irr x ox)
      · exact hz'
omit hc in
theorem srt_mem {l : List S4} {x : S4} : x ∈ srt cf l ↔ x ∈ l := (List.mergeSort_perm l _).mem_iff
theorem srt_up {l : List S4} (hl : ∀ x ∈ l, ok x = true) : (srt cf l).Pairwise fun x y => ¬ cf y x < 0 := by
  have hm : ((l.attachWith (fun x => ok x = true) hl).mergeSort fun x y => !decide (cf y.1 x.1 < 0)).map Subtype.val = srt cf l := by
    unfold srt
    have := List.map_mergeSort (r := fun (x y : { x : S4 // ok x = true }) => !decide (cf y.1 x.1 < 0)) (s := fun x y => !decide (cf y x < 0)) (f := Subtype.val) (l := l.attachWith (fun x => ok x = true) hl) fun a _ b _ => rfl
    rw [this]; simp
  rw [← hm]
  have := List.pairwise_mergeSort (le := fun (x y : { x : S4 // ok x = true }) => !decide (cf y.1 x.1 < 0)) (fun a b c h1 h2 => by
    simp only [Bool.not_eq_true', decide_eq_false_iff_not] at h1 h2 ⊢
    exact hc.ntr _ _ _ c.2 b.2 a.2 h2 h1) (fun a b => by
    by_cases h : cf b.1 a.1 < 0
    · have := asym hc b.2 a.2 h
      simp [this]
    · simp [h]) (l.attachWith (fun x => ok x = true) hl)
  rw [List.pairwise_map]
  exact this.imp fun {a b} h => by simpa using h
omit hc in
theorem comp_mem {l : List S4} {x : S4} : x ∈ compV l ↔ x ∈ l := by
  unfold compV Lib.compact Lib.compactUpTo
  simp only [List.mem_map, List.mem_filter, List.mem_range]
  have gl : ∀ j (h : j < l.length), l.toArray[j]! = l[j] := fun j h => by rw [getElem!_pos l.toArray j (by simpa using h)]; simp
  constructor
  · rintro ⟨j, ⟨hj, _⟩, rfl⟩
    rw [gl j hj]; exact List.getElem_mem hj
  · intro hx
    obtain ⟨j, hj, hxj⟩ := List.getElem_of_mem hx
    -- the first place that holds it
    have : ∀ n, n < l.length → l[n]! = x → ∃ a, (a < l.length ∧ Lib.keeps l.toArray a = true) ∧ l.toArray[a]! = x := by
      intro n
      induction n with
      | zero =>
        intro h e
        refine ⟨0, ⟨h, by simp [Lib.keeps]⟩, ?_⟩
        rw [gl 0 h]; rw [getElem!_pos l 0 h] at e; exact e
      | succ n ih =>
        intro h e
        by_cases c : l[n]! = x
        · exact ih (by omega) c
        · refine ⟨n + 1, ⟨h, ?_⟩, ?_⟩
          · unfold Lib.keeps
            rw [decide_eq_true_eq]; right
            rw [gl (n + 1) h, show n + 1 - 1 = n by omega, gl n (by omega)]
            rw [getElem!_pos l (n + 1) h] at e; rw [getElem!_pos l n (by omega)] at c
            rw [e]; exact fun h => c h.symm
          · rw [gl _ h]; rw [getElem!_pos l (n + 1) h] at e; exact e
    exact this j hj (by rw [getElem!_pos l j hj]; exact hxj)
theorem comp_ord {l : List S4} (hl : ∀ x ∈ l, ok x = true) (hs : l.Pairwise fun x y => ¬ cf y x < 0) : Ord P g ok cf (compV l) where
  ok := fun x hx => hl x (comp_mem.1 hx)
  up := by
    unfold compV Lib.compact Lib.compactUpTo
    rw [List.pairwise_map]
    have gl : ∀ j (h : j < l.length), l.toArray[j]! = l[j] := fun j h => by rw [getElem!_pos l.toArray j (by simpa using h)]; simp
    have hp := (List.pairwise_lt_range (n := l.length)).filter (Lib.keeps l.toArray)
    refine hp.imp_of_mem fun {a b} ha hb hab => ?_
    obtain ⟨ha, _⟩ := List.mem_filter.1 ha
    obtain ⟨hb, hk⟩ := List.mem_filter.1 hb
    rw [List.mem_range] at ha hb
    rw [gl a ha, gl b hb]
    unfold Lib.keeps at hk
    rw [decide_eq_true_eq] at hk
    have hne := hk.resolve_left (by omega)
    rw [gl b hb, gl (b - 1) (by omega)] at hne
    have oa := hl _ (List.getElem_mem ha); have ob := hl _ (List.getElem_mem hb); have oc := hl _ (List.getElem_mem (show b - 1 < l.length by omega))
    have le : ∀ i j (hi : i < l.length) (hj : j < l.length), i < j → ¬ cf l[j] l[i] < 0 := fun i j hi hj hij => List.pairwise_iff_getElem.1 hs i j hi hj hij
    -- l[b-1] < l[b]
    have h1 : cf l[b - 1] l[b] < 0 := Decidable.byContradiction fun h => hne (hc.tot _ _ ob oc (le (b - 1) b (by omega) hb (by omega)) h)
    by_cases e : a = b - 1
    · subst e; exact h1
    · have h2 := le a (b - 1) ha (by omega) (by omega)
      exact Decidable.byContradiction fun h => (hc.ntr _ _ _ oc oa ob h2 h) h1
end
set_option linter.unusedSimpArgs false
set_option linter.unusedVariables false
theorem spk_ok (s : S4) : spk s = okSpot s := by
  unfold spk okSpot
  congr 1
  rw [Bool.eq_iff_iff, beq_iff_eq, beq_iff_eq]
  omega
theorem rd_okL {L : List S4} (hL : ∀ p ∈ L, okp p = true) {i : Nat} (h : i < L.length) : okp (rd L i) = true := by
  rw [rd_in h]; exact hL _ (List.getElem_mem _)
def mn (s : S4) : Int → List S4 → Int
  | x, [] => x
  | x, p :: l => mn s (if sd p s < x then sd p s else x) l
theorem inCell_l3 {L : List S4} {s : S4} (hl : L.length ≤ 100) : ∀ (d i : Nat) (x : Int), L.length - i = d → i ≤ L.length → Lv (fun k m => impl_inCell.l3 k m x L (L.length : Int) (i : Int) s) ((mn s x (L.drop i), ()), ()) := by
  intro d
  induction d with
  | zero =>
    intro i x hd hi
    refine Lv.step (g := fun k m => impl_inCell.s3 k (impl_inCell.l3 k m) x L (L.length : Int) (i : Int) s) ?_ (fun _ _ => rfl)
    simp only [impl_inCell.s3, decide_eq_true_eq, if_neg (show ¬ (i : Int) < (L.length : Int) by omega)]
    rw [List.drop_eq_nil_of_le (by omega)]
    exact .now fun _ _ => rfl
  | succ d ih =>
    intro i x hd hi
    have hi' : i < L.length := by omega
    refine Lv.step (g := fun k m => impl_inCell.s3 k (impl_inCell.l3 k m) x L (L.length : Int) (i : Int) s) ?_ (fun _ _ => rfl)
    simp only [impl_inCell.s3, decide_eq_true_eq, if_pos (show (i : Int) < (L.length : Int) by omega), if_pos (Int.natCast_nonneg _), wrn hi' (show L.length ≤ 2097152 by omega), sideAt_f, Option.bind_some]
    rw [← List.getElem_cons_drop hi', mn, rd_in hi']
    exact ih (i + 1) _ (by omega) (by omega)
theorem inCell_ev {L : List S4} (s : S4) (hl : L.length ≤ 100) : Ev (fun k => impl_inCell.f k L s) (mn s 1 L) := by
  simp only [impl_inCell.f]
  have := inCell_l3 (s := s) hl L.length 0 1 (by omega) (by omega)
  rw [List.drop_zero] at this
  exact this.ev.bind (.now fun _ => rfl)
def pt3 (L : List S4) (p q r : S4) : Option S4 := if D3 p q r = 0 then none else if mn (mS p q r) 1 L ≥ 0 then some (mS p q r) else none
theorem pt3_ok {L : List S4} {p q r s : S4} (hp : okp p = true) (hq : okp q = true) (hr : okp r = true) (h : pt3 L p q r = some s) : okSpot s = true := by
  unfold pt3 at h
  split at h
  · cases h
  · rename_i c
    split at h
    · cases h; rw [← spk_ok]; exact mS_ok (okp_bd4 hp) (okp_bd4 hq) (okp_bd4 hr) c
    · cases h
theorem mS_rev {p q r : S4} (h : D3 p q r ≠ 0) : mS r q p = mS p q r ∧ D3 r q p ≠ 0 := by
  have ex : mX r q p = -mX p q r := by simp only [mX, dt, ip, cx]; grind
  have ey : mY r q p = -mY p q r := by simp only [mY, dt, ip, cx]; grind
  have ez : mZ r q p = -mZ p q r := by simp only [mZ, dt, ip, cx]; grind
  have ed : D3 r q p = -D3 p q r := by simp only [D3, dt, ip, cx]; grind
  have eg : mG r q p = mG p q r := by unfold mG; rw [ex, ey, ez, ed]; simp only [Int.natAbs_neg]
  have eh : mH r q p = -mH p q r := by unfold mH; rw [eg, ed]; split <;> split <;> omega
  refine ⟨?_, by omega⟩
  unfold mS
  rw [ex, ey, ez, ed, eh]
  simp only [Int.neg_tdiv, Int.tdiv_neg, Int.neg_neg]
theorem pt3_rev (L : List S4) (p q r : S4) : pt3 L r q p = pt3 L p q r := by
  unfold pt3
  by_cases c : D3 p q r = 0
  · have : D3 r q p = 0 := Decidable.byContradiction fun h => (mS_rev h).2 c
    rw [if_pos c, if_pos this]
  · obtain ⟨e, h⟩ := mS_rev c
    rw [if_neg c, if_neg h, e]
abbrev OrdS (l : List S4) : Prop := Ord Tryz.prog 62 okSpot cfSpot l
set_option linter.unusedSimpArgs false
set_option linter.unusedVariables false
structure Acc (T : List S4) (Q : S4 → Prop) (n : Nat) (out : List S4) : Prop where
  mem : ∀ x, x ∈ out ↔ x ∈ T ∨ Q x
  ok : ∀ x ∈ out, okSpot x = true
  len : out.length ≤ T.length + n
theorem Acc.none {T : List S4} (h : ∀ x ∈ T, okSpot x = true) {Q : S4 → Prop} (hq : ∀ x, ¬ Q x) (n : Nat) : Acc T Q n T := ⟨fun x => ⟨.inl, fun h => h.resolve_right (hq x)⟩, h, by omega⟩
theorem Acc.trans {T U V : List S4} {Q R S : S4 → Prop} {n m : Nat} (h : Acc T Q n U) (h2 : Acc U R m V) (hs : ∀ x, S x ↔ Q x ∨ R x) {k : Nat} (hk : n + m ≤ k) : Acc T S k V :=
  ⟨fun x => by rw [h2.mem, h.mem, hs, or_assoc], h2.ok, by have := h.len; have := h2.len; omega⟩
theorem Acc.congr {T U : List S4} {Q R : S4 → Prop} {n m : Nat} (h : Acc T Q n U) (hq : ∀ x, R x ↔ Q x) (hn : n ≤ m) : Acc T R m U := ⟨fun x => by rw [h.mem, hq], h.ok, by have := h.len; omega⟩
theorem Acc.one {T : List S4} {s : S4} (h : ∀ x ∈ T, okSpot x = true) (hs : okSpot s = true) : Acc T (fun x => some s = some x) 1 (T ++ [s]) :=
  ⟨fun x => by simp [eq_comm], fun x hx => by
    rcases List.mem_append.1 hx with hx | hx
    · exact h x hx
    · rw [List.mem_singleton] at hx; subst hx; exact hs, by simp⟩
theorem ex_ge {f : Nat → Prop} {i n : Nat} (h : i < n) : (∃ j, i ≤ j ∧ j < n ∧ f j) ↔ f i ∨ ∃ j, i + 1 ≤ j ∧ j < n ∧ f j := by
  constructor
  · rintro ⟨j, h1, h2, h3⟩
    by_cases e : i = j
    · subst e; exact .inl h3
    · exact .inr ⟨j, by omega, h2, h3⟩
  · rintro (h3 | ⟨j, h1, h2, h3⟩)
    · exact ⟨i, Nat.le_refl _, h, h3⟩
    · exact ⟨j, by omega, h2, h3⟩
section
variable {L : List S4} (hL : ∀ p ∈ L, okp p = true) (hl : L.length ≤ 24)
include hL hl
omit hL in
theorem corners_l9 {R x12 x21 : List S4} {x13 x14 x22 x23 : Int} {p q : S4} (hR : ∀ p ∈ R, okp p = true) (hr : R.length ≤ 24) (hp : okp p = true) (hq : okp q = true) : ∀ (d k : Nat), R.length - k = d → k ≤ R.length → ∀ T : List S4, (∀ x ∈ T, okSpot x = true) → T.length + d ≤ 100000 →
    ∃ out, Acc T (fun x => ∃ m, k ≤ m ∧ m < R.length ∧ pt3 L p q (rd R (m : Nat)) = some x) d out ∧ Lv (fun K n => impl_corners.l9 K n L x12 x13 x14 x21 x22 x23 R (R.length : Int) (k : Int) p q T) ((L, (), (), x12, x13, x14, x21, x22, x23, ()), (p, out, ())) := by
  intro d
  induction d with
  | zero =>
    intro k hd hk T hT _
    refine ⟨T, .none hT (fun x ⟨m, h1, h2, _⟩ => by omega) _, Lv.step (g := fun K n => impl_corners.s9 K (impl_corners.l9 K n) L x12 x13 x14 x21 x22 x23 R (R.length : Int) (k : Int) p q T) ?_ (fun _ _ => rfl)⟩
    simp only [impl_corners.s9, decide_eq_true_eq, if_neg (show ¬ (k : Int) < (R.length : Int) by omega)]
    exact .now fun _ _ => rfl
  | succ d ih =>
    intro k hd hk T hT hTl
    have hk' : k < R.length := by omega
    have or : okp (rd R (k : Int)) = true := by rw [rd_in hk']; exact hR _ (List.getElem_mem _)
    have w : W ((k : Int) + 1) = ((k + 1 : Nat) : Int) := wrn hk' (by omega)
    have key : ∃ out, Acc T (fun x => ∃ m, k ≤ m ∧ m < R.length ∧ pt3 L p q (rd R (m : Nat)) = some x) (d + 1) out ∧ Lv (fun K n => impl_corners.s9 K (impl_corners.l9 K n) L x12 x13 x14 x21 x22 x23 R (R.length : Int) (k : Int) p q T) ((L, (), (), x12, x13, x14, x21, x22, x23, ()), (p, out, ())) := by
      simp only [impl_corners.s9, decide_eq_true_eq, if_pos (show (k : Int) < (R.length : Int) by omega), if_pos (Int.natCast_nonneg _), w]
      have skip : pt3 L p q (rd R (k : Nat)) = none → ∃ out, Acc T (fun x => ∃ m, k ≤ m ∧ m < R.length ∧ pt3 L p q (rd R (m : Nat)) = some x) (d + 1) out ∧ Lv (fun K n => impl_corners.l9 K n L x12 x13 x14 x21 x22 x23 R (R.length : Int) ((k + 1 : Nat) : Int) p q T) ((L, (), (), x12, x13, x14, x21, x22, x23, ()), (p, out, ())) := fun hn => by
        obtain ⟨out, h1, h2⟩ := ih (k + 1) (by omega) (by omega) T hT (by omega)
        refine ⟨out, h1.congr (fun x => ?_) (by omega), h2⟩
        rw [ex_ge hk', hn]; simp
      by_cases c : D3 p q (rd R (k : Int)) = 0
      · have hn : pt3 L p q (rd R (k : Nat)) = none := by unfold pt3; rw [if_pos c]
        obtain ⟨out, h1, h2⟩ := skip hn
        refine ⟨out, h1, Lv.bind (meet3_ev (okp_bd4 hp) (okp_bd4 hq) (okp_bd4 or)) ?_⟩
        simp only [if_pos c, Bool.false_eq_true, if_false]; exact h2
      · by_cases c2 : mn (mS p q (rd R (k : Int))) 1 L ≥ 0
        · have hs : pt3 L p q (rd R (k : Nat)) = some (mS p q (rd R (k : Int))) := by unfold pt3; rw [if_neg c, if_pos c2]
          have os := pt3_ok hp hq or hs
          have h0 := Acc.one hT os
          obtain ⟨out, h1, h2⟩ := ih (k + 1) (by omega) (by omega) _ h0.ok (by simp; omega)
          refine ⟨out, h0.trans h1 (fun x => ?_) (by omega), Lv.bind (meet3_ev (okp_bd4 hp) (okp_bd4 hq) (okp_bd4 or)) ?_⟩
          · rw [ex_ge hk', hs]
          · simp only [if_neg c, if_true]
            refine Lv.bind (inCell_ev _ (by omega)) ?_
            simp only [if_pos c2, if_true, lt47_ok (show T.length + ([mS p q (rd R (k : Int))] : List S4).length < 2199023255552 by simp; omega)]
            exact h2
        · have hn : pt3 L p q (rd R (k : Nat)) = none := by unfold pt3; rw [if_neg c, if_neg c2]
          obtain ⟨out, h1, h2⟩ := skip hn
          refine ⟨out, h1, Lv.bind (meet3_ev (okp_bd4 hp) (okp_bd4 hq) (okp_bd4 or)) ?_⟩
          simp only [if_neg c, if_true]
          refine Lv.bind (inCell_ev _ (by omega)) ?_
          simp only [if_neg c2]; exact h2
    obtain ⟨out, h1, h2⟩ := key
    exact ⟨out, h1, h2.step (fun _ _ => rfl)⟩
theorem corners_l6 {i : Nat} (hi : i < L.length) {x13 : Int} : ∀ (d j : Nat), i - j = d → j ≤ i → ∀ T : List S4, (∀ x ∈ T, okSpot x = true) → T.length + d * 24 ≤ 100000 →
    ∃ out, Acc T (fun x => ∃ m, j ≤ m ∧ m < i ∧ ∃ k, k < m ∧ pt3 L (rd L (i : Nat)) (rd L (m : Nat)) (rd L (k : Nat)) = some x) (d * 24) out ∧ Lv (fun K n => impl_corners.l6 K n L L x13 (i : Int) (L.take i) ((L.take i).length : Int) (j : Int) (rd L (i : Int)) T) ((L, (), L, x13, (i : Int), ()), (out, ())) := by
  have til : (L.take i).length = i := by rw [List.length_take]; omega
  have oi := rd_okL hL hi
  intro d
  induction d with
  | zero =>
    intro j hd hj T hT _
    refine ⟨T, .none hT (fun x ⟨m, h1, h2, _⟩ => by omega) _, Lv.step (g := fun K n => impl_corners.s6 K (impl_corners.l6 K n) L L x13 (i : Int) (L.take i) ((L.take i).length : Int) (j : Int) (rd L (i : Int)) T) ?_ (fun _ _ => rfl)⟩
    simp only [impl_corners.s6, decide_eq_true_eq, til, if_neg (show ¬ (j : Int) < (i : Int) by omega)]
    exact .now fun _ _ => rfl
  | succ d ih =>
    intro j hd hj T hT hTl
    have hj' : j < i := by omega
    have oj := rd_okL hL (show j < L.length by omega)
    have w : W ((j : Int) + 1) = ((j + 1 : Nat) : Int) := by rw [W_id (by omega) (by omega)]; omega
    have tjl : (L.take j).length = j := by rw [List.length_take]; omega
    have e : rd (L.take i) (j : Int) = rd L (j : Int) := rd_take hj'
    obtain ⟨o1, a1, l1⟩ := corners_l9 hl (R := L.take j) (x12 := L) (x21 := L.take i) (x13 := x13) (x14 := (i : Int)) (x22 := ((L.take i).length : Int)) (x23 := (j : Int)) (p := rd L (i : Int)) (q := rd L (j : Int)) (fun p hp => hL p (List.mem_of_mem_take hp)) (by omega) oi oj j 0 (by omega) (by omega) T hT (by omega)
    have h24 : o1.length + d * 24 ≤ 100000 := by have := a1.len; omega
    obtain ⟨o2, a2, l2⟩ := ih (j + 1) (by omega) (by omega) o1 a1.ok h24
    refine ⟨o2, a1.trans a2 (fun x => ?_) (by omega), ?_⟩
    · rw [ex_ge hj']
      refine or_congr ⟨fun ⟨k, h1, h2⟩ => ⟨k, by omega, by rw [tjl]; exact h1, by rw [rd_take h1]; exact h2⟩, fun ⟨k, _, h1, h2⟩ => ?_⟩ Iff.rfl
      rw [tjl] at h1; rw [rd_take h1] at h2; exact ⟨k, h1, h2⟩
    · refine Lv.step (g := fun K n => impl_corners.s6 K (impl_corners.l6 K n) L L x13 (i : Int) (L.take i) ((L.take i).length : Int) (j : Int) (rd L (i : Int)) T) ?_ (fun _ _ => rfl)
      simp only [impl_corners.s6, decide_eq_true_eq, til, if_pos (show (j : Int) < (i : Int) by omega), if_pos (Int.natCast_nonneg _), if_pos (show (j : Int) ≤ (L.length : Int) by omega), e, Int.toNat_natCast, w]
      simp only [til] at l1
      refine Lv.bind l1.ev ?_
      simp only [til] at l2
      simp only [w]
      exact l2
theorem corners_l3 : ∀ (d i : Nat), L.length - i = d → i ≤ L.length → ∀ T : List S4, (∀ x ∈ T, okSpot x = true) → T.length + d * 576 ≤ 100000 →
    ∃ out, Acc T (fun x => ∃ m, i ≤ m ∧ m < L.length ∧ ∃ j, j < m ∧ ∃ k, k < j ∧ pt3 L (rd L (m : Nat)) (rd L (j : Nat)) (rd L (k : Nat)) = some x) (d * 576) out ∧ Lv (fun K n => impl_corners.l3 K n L L (L.length : Int) (i : Int) T) (((), ()), (out, ())) := by
  intro d
  induction d with
  | zero =>
    intro i hd hi T hT _
    refine ⟨T, .none hT (fun x ⟨m, h1, h2, _⟩ => by omega) _, Lv.step (g := fun K n => impl_corners.s3 K (impl_corners.l3 K n) L L (L.length : Int) (i : Int) T) ?_ (fun _ _ => rfl)⟩
    simp only [impl_corners.s3, decide_eq_true_eq, if_neg (show ¬ (i : Int) < (L.length : Int) by omega)]
    exact .now fun _ _ => rfl
  | succ d ih =>
    intro i hd hi T hT hTl
    have hi' : i < L.length := by omega
    have w : W ((i : Int) + 1) = ((i + 1 : Nat) : Int) := by rw [W_id (by omega) (by omega)]; omega
    obtain ⟨o1, a1, l1⟩ := corners_l6 hL hl hi' (x13 := (L.length : Int)) i 0 (by omega) (by omega) T hT (by omega)
    have h24 : o1.length + d * 576 ≤ 100000 := by have := a1.len; omega
    obtain ⟨o2, a2, l2⟩ := ih (i + 1) (by omega) (by omega) o1 a1.ok h24
    refine ⟨o2, a1.trans a2 (fun x => ?_) (by omega), ?_⟩
    · rw [ex_ge hi']
      refine or_congr ⟨fun ⟨j, h1, k, h2, h3⟩ => ⟨j, by omega, h1, k, h2, h3⟩, fun ⟨j, _, h1, k, h2, h3⟩ => ⟨j, h1, k, h2, h3⟩⟩ Iff.rfl
    · refine Lv.step (g := fun K n => impl_corners.s3 K (impl_corners.l3 K n) L L (L.length : Int) (i : Int) T) ?_ (fun _ _ => rfl)
      simp only [impl_corners.s3, decide_eq_true_eq, if_pos (show (i : Int) < (L.length : Int) by omega), if_pos (Int.natCast_nonneg _), if_pos (show (i : Int) ≤ (L.length : Int) by omega), Int.toNat_natCast, w]
      refine Lv.bind l1.ev ?_
      simp only [w]
      exact l2
end
set_option linter.unusedSimpArgs false
set_option linter.unusedVariables false
section
variable {L : List S4} (hL : ∀ p ∈ L, okp p = true) (hl : L.length ≤ 24)
include hL hl
end
set_option linter.unusedSimpArgs false
set_option linter.unusedVariables false
def mk4 (j : Nat) : S4 := ⟨1 + 4 * (j : Int), 1 + 4 * (j : Int) + 1, 1 + 4 * (j : Int) + 2, 1 + 4 * (j : Int) + 3⟩
end Go.Proofs.YtalkkenkeilmpaaGreat.Q
