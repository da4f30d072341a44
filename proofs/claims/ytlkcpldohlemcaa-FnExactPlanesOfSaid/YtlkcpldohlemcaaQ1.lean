/- The planes of a tree's nodes, in order, each once, by both programs. -/
import Derived.Test.YtlkcpldohlemcaaP6q
import Derived.Test.YtlkcpldohlemcaaX0
import Derived.Test.YtlkcpldohlemcaaSh
namespace Go.Proofs.Ytlkcpldohlemcaa.Q
open Go Go.RowKit Go.Proofs Go.Proofs.Ytlkcpldohlemcaa.Ev Go.Proofs.Ytlkcpldohlemcaa.G
set_option linter.unusedSimpArgs false
set_option linter.unusedVariables false

theorem look_cases {b : Bool} {p : S4} {l : List Tree} {L : List S4} (h : look (.mk b p l) L = true) : l = [] ∨ ∃ x y, l = [x, y] ∧ look x (L ++ [p]) = true ∧ look y (L ++ [flp p]) = true := by
  match l with
  | [] => exact .inl rfl
  | [x] => simp [look] at h
  | [x, y] =>
    simp only [look, Bool.and_eq_true] at h
    exact .inr ⟨x, y, rfl, h.1.2, h.2⟩
  | x :: y :: z :: r => simp [look] at h
theorem sok_look {T : Tree} (h : sok T = true) : look T [] = true ∧ nn T ≤ 300 := by
  simpa [sok] using h
/-- in order, each once, under a comparison that is told of on what is right. -/
structure Ord (P : Program) (g : Nat) (ok : S4 → Bool) (cf : S4 → S4 → Int) (l : List S4) : Prop where
  ok : ∀ x ∈ l, ok x = true
  up : l.Pairwise fun x y => cf x y < 0
section
variable {P : Program} {g : Nat} {ok : S4 → Bool} {cf : S4 → S4 → Int} (hc : CmpOk P g ok cf)
include hc
theorem asym {x y : S4} (hx : ok x = true) (hy : ok y = true) (h : cf x y < 0) : ¬ cf y x < 0 := fun h2 => hc.irr x hx (hc.tr x y x hx hy hx h h2)
/-- the same members: the same row. -/
theorem ord_eq : ∀ {l m : List S4}, Ord P g ok cf l → Ord P g ok cf m → (∀ x, x ∈ l ↔ x ∈ m) → l = m
  | [], [], _, _, _ => rfl
  | [], y :: m, _, _, h => by have := (h y).2 (by simp); cases this
  | x :: l, [], _, _, h => by have := (h x).1 (by simp); cases this
  | x :: l, y :: m, hl, hm, h => by
    have hl1 := List.pairwise_cons.1 hl.up
    have hm1 := List.pairwise_cons.1 hm.up
    have ox := hl.ok x (by simp); have oy := hm.ok y (by simp)
    have e : x = y := by
      rcases List.mem_cons.1 ((h x).1 (by simp)) with e | hx
      · exact e
      rcases List.mem_cons.1 ((h y).2 (by simp)) with e | hy
      · exact e.symm
      exact absurd (hl1.1 y hy) (asym hc oy ox (hm1.1 x hx))
    subst e
    congr 1
    refine ord_eq ⟨fun z hz => hl.ok z (List.mem_cons_of_mem _ hz), hl1.2⟩ ⟨fun z hz => hm.ok z (List.mem_cons_of_mem _ hz), hm1.2⟩ fun z => ⟨fun hz => ?_, fun hz => ?_⟩
    · rcases List.mem_cons.1 ((h z).1 (List.mem_cons_of_mem _ hz)) with e | hz'
      · exact absurd (hl1.1 z hz) (by rw [e]; exact hc.irr x ox)
      · exact hz'
    · rcases List.mem_cons.1 ((h z).2 (List.mem_cons_of_mem _ hz)) with e | hz'
      · exact absurd (hm1.1 z hz) (by rw [e]; exact hc.irr x ox)
      · exact hz'
omit hc in
theorem srt_mem {l : List S4} {x : S4} : x ∈ srt cf l ↔ x ∈ l := (List.mergeSort_perm l _).mem_iff
/-- sorted: none later is less. -/
theorem srt_up {l : List S4} (hl : ∀ x ∈ l, ok x = true) : (srt cf l).Pairwise fun x y => ¬ cf y x < 0 := by
  have hm : ((l.attachWith (fun x => ok x = true) hl).mergeSort fun x y => !decide (cf y.1 x.1 < 0)).map Subtype.val = srt cf l := by
    unfold srt
    have := List.map_mergeSort (r := fun (x y : { x : S4 // ok x = true }) => !decide (cf y.1 x.1 < 0)) (s := fun x y => !decide (cf y x < 0)) (f := Subtype.val) (l := l.attachWith (fun x => ok x = true) hl) fun a _ b _ => rfl
    rw [this]; simp
  rw [← hm]
  have := List.pairwise_mergeSort (le := fun (x y : { x : S4 // ok x = true }) => !decide (cf y.1 x.1 < 0)) (fun a b c h1 h2 => by
    simp only [Bool.not_eq_true', decide_eq_false_iff_not] at h1 h2 ⊢
    exact hc.ntr _ _ _ c.2 b.2 a.2 h2 h1) (fun a b => by
    by_cases h : cf b.1 a.1 < 0
    · have := asym hc b.2 a.2 h
      simp [this]
    · simp [h]) (l.attachWith (fun x => ok x = true) hl)
  rw [List.pairwise_map]
  exact this.imp fun {a b} h => by simpa using h
omit hc in
theorem comp_mem {l : List S4} {x : S4} : x ∈ compV l ↔ x ∈ l := by
  unfold compV Lib.compact Lib.compactUpTo
  simp only [List.mem_map, List.mem_filter, List.mem_range]
  have gl : ∀ j (h : j < l.length), l.toArray[j]! = l[j] := fun j h => by rw [getElem!_pos l.toArray j (by simpa using h)]; simp
  constructor
  · rintro ⟨j, ⟨hj, _⟩, rfl⟩
    rw [gl j hj]; exact List.getElem_mem hj
  · intro hx
    obtain ⟨j, hj, hxj⟩ := List.getElem_of_mem hx
    -- the first place that holds it
    have : ∀ n, n < l.length → l[n]! = x → ∃ a, (a < l.length ∧ Lib.keeps l.toArray a = true) ∧ l.toArray[a]! = x := by
      intro n
      induction n with
      | zero =>
        intro h e
        refine ⟨0, ⟨h, by simp [Lib.keeps]⟩, ?_⟩
        rw [gl 0 h]; rw [getElem!_pos l 0 h] at e; exact e
      | succ n ih =>
        intro h e
        by_cases c : l[n]! = x
        · exact ih (by omega) c
        · refine ⟨n + 1, ⟨h, ?_⟩, ?_⟩
          · unfold Lib.keeps
            rw [decide_eq_true_eq]; right
            rw [gl (n + 1) h, show n + 1 - 1 = n by omega, gl n (by omega)]
            rw [getElem!_pos l (n + 1) h] at e; rw [getElem!_pos l n (by omega)] at c
            rw [e]; exact fun h => c h.symm
          · rw [gl _ h]; rw [getElem!_pos l (n + 1) h] at e; exact e
    exact this j hj (by rw [getElem!_pos l j hj]; exact hxj)
theorem comp_ord {l : List S4} (hl : ∀ x ∈ l, ok x = true) (hs : l.Pairwise fun x y => ¬ cf y x < 0) : Ord P g ok cf (compV l) where
  ok := fun x hx => hl x (comp_mem.1 hx)
  up := by
    unfold compV Lib.compact Lib.compactUpTo
    rw [List.pairwise_map]
    have gl : ∀ j (h : j < l.length), l.toArray[j]! = l[j] := fun j h => by rw [getElem!_pos l.toArray j (by simpa using h)]; simp
    have hp := (List.pairwise_lt_range (n := l.length)).filter (Lib.keeps l.toArray)
    refine hp.imp_of_mem fun {a b} ha hb hab => ?_
    obtain ⟨ha, _⟩ := List.mem_filter.1 ha
    obtain ⟨hb, hk⟩ := List.mem_filter.1 hb
    rw [List.mem_range] at ha hb
    rw [gl a ha, gl b hb]
    unfold Lib.keeps at hk
    rw [decide_eq_true_eq] at hk
    have hne := hk.resolve_left (by omega)
    rw [gl b hb, gl (b - 1) (by omega)] at hne
    have oa := hl _ (List.getElem_mem ha); have ob := hl _ (List.getElem_mem hb); have oc := hl _ (List.getElem_mem (show b - 1 < l.length by omega))
    have le : ∀ i j (hi : i < l.length) (hj : j < l.length), i < j → ¬ cf l[j] l[i] < 0 := fun i j hi hj hij => List.pairwise_iff_getElem.1 hs i j hi hj hij
    -- l[b-1] < l[b]
    have h1 : cf l[b - 1] l[b] < 0 := Decidable.byContradiction fun h => hne (hc.tot _ _ ob oc (le (b - 1) b (by omega) hb (by omega)) h)
    by_cases e : a = b - 1
    · subst e; exact h1
    · have h2 := le a (b - 1) ha (by omega) (by omega)
      exact Decidable.byContradiction fun h => (hc.ntr _ _ _ oc oa ob h2 h) h1
end

/-! ### comparing planes -/
theorem cI_gt {x y : Int} : cI x y > 0 ↔ y < x := by unfold cI; split <;> (try split) <;> omega
theorem cfPlane_gt {x y : S4} : cfPlane x y > 0 ↔ cfPlane y x < 0 := by
  rw [cfPlane_lt]
  unfold cfPlane cor
  have h1 := @cI_gt x.a y.a; have h2 := @cI_0 x.a y.a; have h3 := @cI_gt x.b y.b; have h4 := @cI_0 x.b y.b; have h5 := @cI_gt x.c y.c; have h6 := @cI_0 x.c y.c; have h7 := @cI_gt x.d y.d; have h8 := @cI_0 x.d y.d
  simp only [cor]
  split
  · omega
  · split
    · omega
    · split
      · omega
      · split <;> omega
theorem iCmp_ev (x y : S4) : Ev (fun k => impl_CmpPlane.f k x y) (cfPlane x y) := by
  refine ⟨10, fun k hk => ?_⟩
  have e : cmp_Or_int.f k [cI x.a y.a, cI x.b y.b, cI x.c y.c, cI x.d y.d] = some (cfPlane x y) := by
    have := or_l3 k [cI x.a y.a, cI x.b y.b, cI x.c y.c, cI x.d y.d] (by simp) 4 0 k (by simp) (by simp) (by omega)
    rw [List.drop_zero] at this
    exact this
  simp only [impl_CmpPlane.f, cmp_f, Option.bind_some, e]
theorem cmpI_f (k : Nat) (x y : Int) : spec_l3CmpInt.f k x y = some (cI x y) := by
  unfold spec_l3CmpInt.f cI
  simp only [decide_eq_true_eq]
  split
  · rfl
  · split <;> rfl
theorem sCmp_l4 {x0 x1 x2 x3 y0 y1 y2 y3 : Int} : Lv (fun k n => spec_CmpPlane.l4 k n 0 [x0, x1, x2, x3] [y0, y1, y2, y3]) (if x0 ≠ y0 then .inl ((cI x0 y0, ()), ()) else if x1 ≠ y1 then .inl ((cI x1 y1, ()), ()) else if x2 ≠ y2 then .inl ((cI x2 y2, ()), ()) else if x3 ≠ y3 then .inl ((cI x3 y3, ()), ()) else .inr ((), ())) := by
  have w0 : W (0 + 1) = 1 := W_id (by omega) (by omega)
  have w1 : W (1 + 1) = 2 := W_id (by omega) (by omega)
  have w2 : W (2 + 1) = 3 := W_id (by omega) (by omega)
  have w3 : W (3 + 1) = 4 := W_id (by omega) (by omega)
  refine Lv.step (g := fun k n => spec_CmpPlane.s4 k (spec_CmpPlane.l4 k n) 0 [x0, x1, x2, x3] [y0, y1, y2, y3]) ?_ (fun _ _ => rfl)
  by_cases c0 : x0 = y0
  · subst c0
    simp [spec_CmpPlane.s4, cmpI_f, w0]
    refine Lv.step (g := fun k n => spec_CmpPlane.s4 k (spec_CmpPlane.l4 k n) 1 [x0, x1, x2, x3] [x0, y1, y2, y3]) ?_ (fun _ _ => rfl)
    by_cases c1 : x1 = y1
    · subst c1
      simp [spec_CmpPlane.s4, cmpI_f, w1]
      refine Lv.step (g := fun k n => spec_CmpPlane.s4 k (spec_CmpPlane.l4 k n) 2 [x0, x1, x2, x3] [x0, x1, y2, y3]) ?_ (fun _ _ => rfl)
      by_cases c2 : x2 = y2
      · subst c2
        simp [spec_CmpPlane.s4, cmpI_f, w2]
        refine Lv.step (g := fun k n => spec_CmpPlane.s4 k (spec_CmpPlane.l4 k n) 3 [x0, x1, x2, x3] [x0, x1, x2, y3]) ?_ (fun _ _ => rfl)
        by_cases c3 : x3 = y3
        · subst c3
          simp [spec_CmpPlane.s4, cmpI_f, w3]
          refine Lv.step (g := fun k n => spec_CmpPlane.s4 k (spec_CmpPlane.l4 k n) 4 [x0, x1, x2, x3] [x0, x1, x2, x3]) ?_ (fun _ _ => rfl)
          simp [spec_CmpPlane.s4]
          exact .now fun _ _ => rfl
        · simp [spec_CmpPlane.s4, cmpI_f, c3]
          exact .now fun _ _ => rfl
      · simp [spec_CmpPlane.s4, cmpI_f, c2]
        exact .now fun _ _ => rfl
    · simp [spec_CmpPlane.s4, cmpI_f, c1]
      exact .now fun _ _ => rfl
  · simp [spec_CmpPlane.s4, cmpI_f, c0]
    exact .now fun _ _ => rfl
theorem sCmp_ev (x y : S4) : Ev (fun k => spec_CmpPlane.f k x y) (cfPlane x y) := by
  unfold spec_CmpPlane.f
  refine sCmp_l4.ev.bind ?_
  have n : ∀ x y : Int, (cI x y ≠ 0) = (x ≠ y) := fun x y => propext (not_congr cI_0)
  unfold cfPlane
  simp only [cor, n]
  by_cases c0 : x.a ≠ y.a
  · simp only [if_pos c0]; exact .now fun _ => rfl
  · simp only [if_neg c0]
    by_cases c1 : x.b ≠ y.b
    · simp only [if_pos c1]; exact .now fun _ => rfl
    · simp only [if_neg c1]
      by_cases c2 : x.c ≠ y.c
      · simp only [if_pos c2]; exact .now fun _ => rfl
      · simp only [if_neg c2]
        by_cases c3 : x.d ≠ y.d
        · simp only [if_pos c3]; exact .now fun _ => rfl
        · simp only [if_neg c3]; exact .now fun _ => rfl
abbrev OrdP (l : List S4) : Prop := Ord Try.prog 175 okPlane cfPlane l

/-! ### the planes -/
def gr (p : S4) : S4 := if cfPlane p (flp p) < 0 then flp p else p
def pls : Tree → List S4
  | .mk _ p [x, y] => pls x ++ [gr p] ++ pls y
  | _ => []
theorem greater_ev {p : S4} (h : Bd4 p) : Ev (fun k => impl_greater.f k p) (gr p) := by
  unfold impl_greater.f gr
  simp only [flip_f _ h, Option.bind_some]
  refine (iCmp_ev (flp p) p).bind ?_
  simp only [decide_eq_true_eq, cfPlane_gt]
  split <;> exact .now fun _ => rfl
theorem look_okp {b : Bool} {p : S4} {x y : Tree} {L : List S4} (h : look (.mk b p [x, y]) L = true) : okp p = true := by
  simp only [look, Bool.and_eq_true] at h
  exact h.1.1.1.1.1.2
theorem planes_ok {T : Tree} (hT : TW T) : ∀ L, look T L = true → nn T ≤ 300 → (pls T).length ≤ nn T ∧ Ev (fun k => impl_Solid_planes.f k T) (pls T) := by
  induction hT with
  | mk b p l hl h ih =>
    intro L hL hn
    rcases look_cases hL with rfl | ⟨x, y, rfl, h1, h2⟩
    · refine ⟨by simp [pls], Ev.succ (g := fun k => impl_Solid_planes.fs k (impl_Solid_planes.f k) (.mk b p [])) ?_ (fun k => impl_Solid_planes.fS k _)⟩
      simp only [impl_Solid_planes.fs, isLeaf_f, T1_eq, Option.bind_some, Tree.kids, List.length_nil, Int.natCast_zero, beq_self_eq_true, if_true]
      exact .now fun _ => rfl
    · have r0 : rd [x, y] 0 = x := rfl
      have r1 : rd [x, y] 1 = y := rfl
      have en : nn (.mk b p [x, y]) = 1 + (nn x + nn y) := by simp [nn, nnL]
      rw [en] at hn ⊢
      obtain ⟨l1, e1⟩ := ih x (by simp) _ h1 (by omega)
      obtain ⟨l2, e2⟩ := ih y (by simp) _ h2 (by omega)
      have ep : pls (.mk b p [x, y]) = pls x ++ [gr p] ++ pls y := by simp [pls]
      rw [ep]
      refine ⟨by simp only [List.length_append, List.length_singleton]; omega, Ev.succ (g := fun k => impl_Solid_planes.fs k (impl_Solid_planes.f k) (.mk b p [x, y])) ?_ (fun k => impl_Solid_planes.fS k _)⟩
      simp only [impl_Solid_planes.fs, isLeaf_f, T1_eq, Option.bind_some, eq_iff, Tree.kids, Tree.p, List.length_cons, List.length_nil, show ((0 + 1 + 1 : Nat) : Int) = 2 from rfl, show ¬ ((2 : Int) = 0) by omega, if_false, if_pos (show (0 : Int) < 2 by omega), if_pos (show (1 : Int) < 2 by omega), if_pos (show (0 : Int) ≤ 1 by omega), Int.le_refl, if_true, r0, r1]
      refine e1.bind ((greater_ev (okp_bd4 (look_okp hL))).bind ?_)
      simp only [List.length_append, List.length_singleton, List.length_cons, List.length_nil, if_pos (lt47_ok (show (pls x).length + (0 + 1) < 2199023255552 by omega))]
      refine e2.bind ?_
      simp only [if_pos (lt47_ok (show (pls x).length + (0 + 1) + (pls y).length < 2199023255552 by omega))]
      exact .now fun _ => rfl
theorem okP (x : S4) : okPlane x = true := rfl
theorem l8_l7 {T : Tree} {l : List S4} (hl : OrdP l) (hn : l.length ≤ 1000000) {s : S4} {self : Nat → Tree → List S4 → Option (List S4)} : ∀ i : Nat, i ≤ l.length → (∀ j (h : j < l.length), i ≤ j → cfPlane s l[j] < 0) →
    Lx (fun k m => spec_l8Planes.l7 k (self k) m l (i : Int) T s) (fun r => ∃ j : Nat, j ≤ l.length ∧ r = ((l, (), (), (j : Int), ()), (T, s, ())) ∧ (∀ a (h : a < l.length), j ≤ a → cfPlane s l[a] < 0) ∧ ∀ a (h : a < l.length), a < j → ¬ cfPlane s l[a] < 0) := by
  intro i
  induction i with
  | zero =>
    intro _ hup
    refine Lx.step (g := fun k m => spec_l8Planes.s7 k (self k) (spec_l8Planes.l7 k (self k) m) l ((0 : Nat) : Int) T s) ?_ (fun _ _ => rfl)
    exact Lx.now (v := ((l, (), (), ((0 : Nat) : Int), ()), (T, s, ()))) (fun _ _ => by simp [spec_l8Planes.s7, T1_eq]) ⟨0, Nat.zero_le _, rfl, fun a h _ => hup a h (Nat.zero_le _), fun a _ h => absurd h (Nat.not_lt_zero _)⟩
  | succ i ih =>
    intro hi hup
    have hi' : i < l.length := by omega
    have w : W (((i + 1 : Nat) : Int) - 1) = (i : Int) := by rw [W_id (by omega) (by omega)]; omega
    have e : rd l (i : Int) = l[i] := by simp [rd, List.getD_eq_getElem?_getD, hi']
    refine Lx.step (g := fun k m => spec_l8Planes.s7 k (self k) (spec_l8Planes.l7 k (self k) m) l ((i + 1 : Nat) : Int) T s) ?_ (fun _ _ => rfl)
    simp only [spec_l8Planes.s7, decide_eq_true_eq, if_pos (show ((i + 1 : Nat) : Int) > 0 by omega), w, if_pos (Int.natCast_nonneg _), if_pos (show (i : Int) < (l.length : Int) by omega), e, T1_eq]
    refine Lx.bind ((sCmp_ev l[i] s).ex (R := fun c => c = cfPlane l[i] s) rfl) fun c hc => ?_
    subst hc
    by_cases c : cfPlane s l[i] < 0
    · simp only [if_pos (cfPlane_gt.2 c)]
      refine ih (by omega) fun j h hj => ?_
      by_cases e2 : j = i
      · subst e2; exact c
      · exact hup j h (by omega)
    · simp only [if_neg (fun h => c (cfPlane_gt.1 h))]
      refine Lx.now (fun _ _ => rfl) ⟨i + 1, hi, rfl, fun a h ha => hup a h ha, fun a h ha hlt => c ?_⟩
      by_cases e2 : a = i
      · subst e2; exact hlt
      · exact cmpPlane_ok.tr _ _ _ (okP _) (okP _) (okP _) hlt (List.pairwise_iff_getElem.1 hl.up a i h hi' (by omega))
theorem put_ok {l : List S4} (hl : OrdP l) {s : S4} {j : Nat} (hj : j ≤ l.length) (h1 : ∀ a (h : a < l.length), a < j → cfPlane l[a] s < 0) (h2 : ∀ a (h : a < l.length), j ≤ a → cfPlane s l[a] < 0) :
    OrdP (l.take j ++ [s] ++ l.drop j) ∧ ∀ x, x ∈ l.take j ++ [s] ++ l.drop j ↔ x ∈ l ∨ x = s := by
  have tl : (l.take j).length = j := by rw [List.length_take]; omega
  have dl : (l.drop j).length = l.length - j := List.length_drop ..
  refine ⟨⟨fun x _ => okP x, ?_⟩, fun x => ?_⟩
  · have gt : ∀ x ∈ l.take j, cfPlane x s < 0 := fun x hx => by
      obtain ⟨a, ha, rfl⟩ := List.getElem_of_mem hx
      rw [tl] at ha
      rw [List.getElem_take]; exact h1 a (by omega) ha
    have gd : ∀ x ∈ l.drop j, cfPlane s x < 0 := fun x hx => by
      obtain ⟨a, ha, rfl⟩ := List.getElem_of_mem hx
      rw [dl] at ha
      rw [List.getElem_drop]; exact h2 _ (by omega) (by omega)
    rw [List.pairwise_append]
    have hp := hl.up
    rw [← List.take_append_drop j l, List.pairwise_append] at hp
    refine ⟨?_, hp.2.1, fun x hx y hy => ?_⟩
    · rw [List.pairwise_append]
      refine ⟨hp.1, List.pairwise_singleton _ _, fun x hx y hy => ?_⟩
      rw [List.mem_singleton] at hy; subst hy; exact gt x hx
    · rcases List.mem_append.1 hx with hx | hx
      · exact hp.2.2 x hx y hy
      · rw [List.mem_singleton] at hx; subst hx; exact gd y hy
  · have : x ∈ l ↔ x ∈ l.take j ∨ x ∈ l.drop j := by
      conv => lhs; rw [← List.take_append_drop j l]
      exact List.mem_append
    rw [this]
    simp only [List.mem_append, List.mem_singleton]
    constructor
    · rintro ((h | h) | h)
      · exact .inl (.inl h)
      · exact .inr h
      · exact .inl (.inr h)
    · rintro ((h | h) | h)
      · exact .inl (.inl h)
      · exact .inr h
      · exact .inl (.inr h)
theorem l8Planes_ok {T : Tree} (hT : TW T) : ∀ L, look T L = true → ∀ l : List S4, OrdP l → l.length + nn T ≤ 100000 → ∃ V, OrdP V ∧ (∀ x, x ∈ V ↔ x ∈ l ∨ x ∈ pls T) ∧ V.length ≤ l.length + nn T ∧ Ev (fun k => spec_l8Planes.f k T l) V := by
  induction hT with
  | mk b p kids hkl h ih =>
    intro L hL l hl hn
    rcases look_cases hL with rfl | ⟨x, y, rfl, h1, h2⟩
    · refine ⟨l, hl, fun x => by simp [pls], by omega, Ev.succ (g := fun k => spec_l8Planes.fs k (spec_l8Planes.f k) (.mk b p []) l) ?_ (fun k => spec_l8Planes.fS k _ _)⟩
      simp only [spec_l8Planes.fs, leaf_f, T1_eq, Option.bind_some, Tree.kids, List.length_nil, Int.natCast_zero, beq_self_eq_true, if_true]
      exact .now fun _ => rfl
    · have r0 : rd [x, y] 0 = x := rfl
      have r1 : rd [x, y] 1 = y := rfl
      have en : nn (.mk b p [x, y]) = 1 + (nn x + nn y) := by simp [nn, nnL]
      have ep : pls (.mk b p [x, y]) = pls x ++ [gr p] ++ pls y := by simp [pls]
      have hb := okp_bd4 (look_okp hL)
      rw [en] at hn ⊢
      -- the row with the plane
      obtain ⟨r, hr, j, hj, rfl, q1, q2⟩ := l8_l7 (T := .mk b p [x, y]) hl (by omega) (s := gr p) (self := fun k => spec_l8Planes.f k) l.length (Nat.le_refl _) (fun a h1 h2 => by omega)
      have tl : (l.take j).length = j := by rw [List.length_take]; omega
      have dl : (l.drop j).length = l.length - j := List.length_drop ..
      have wj : 0 < j → W ((j : Int) - 1) = ((j - 1 : Nat) : Int) := fun h => by rw [W_id (by omega) (by omega)]; omega
      have rj : 0 < j → rd l ((j - 1 : Nat) : Int) = l.getD (j - 1) default := fun h => by simp [rd]
      have ins : (j = 0 ∨ l.getD (j - 1) default ≠ gr p) → OrdP (l.take j ++ [gr p] ++ l.drop j) ∧ ∀ x, x ∈ l.take j ++ [gr p] ++ l.drop j ↔ x ∈ l ∨ x = gr p := fun hc => put_ok hl hj (fun a ha haj => by
        have hj0 : 0 < j := by omega
        have hne := hc.resolve_left (by omega)
        have hjl : j - 1 < l.length := by omega
        have hg : l.getD (j - 1) default = l[j - 1] := by simp [List.getD_eq_getElem?_getD, hjl]
        rw [hg] at hne
        have last : cfPlane l[j - 1] (gr p) < 0 := Decidable.byContradiction fun hneg => hne (cmpPlane_ok.tot _ _ (okP _) (okP _) hneg (q2 (j - 1) hjl (by omega)))
        by_cases e : a = j - 1
        · subst e; exact last
        · exact cmpPlane_ok.tr _ _ _ (okP _) (okP _) (okP _) (List.pairwise_iff_getElem.1 hl.up a (j - 1) ha hjl (by omega)) last) q1
      have out : ∃ o, OrdP o ∧ (∀ x, x ∈ o ↔ x ∈ l ∨ x = gr p) ∧ o.length ≤ l.length + 1 ∧ o = if j = 0 ∨ l.getD (j - 1) default ≠ gr p then l.take j ++ [gr p] ++ l.drop j else l := by
        by_cases c : j = 0 ∨ l.getD (j - 1) default ≠ gr p
        · obtain ⟨o1, o2⟩ := ins c
          refine ⟨_, o1, o2, ?_, by rw [if_pos c]⟩
          simp only [List.length_append, List.length_singleton, tl, dl]; omega
        · refine ⟨l, hl, fun x => ⟨.inl, fun h => ?_⟩, by omega, by rw [if_neg c]⟩
          rcases h with h | h
          · exact h
          · rw [not_or, Decidable.not_not] at c
            rw [h, ← c.2]
            have hjl : j - 1 < l.length := by omega
            have hg : l.getD (j - 1) default = l[j - 1] := by simp [List.getD_eq_getElem?_getD, hjl]
            rw [hg]; exact List.getElem_mem hjl
      obtain ⟨o, o1, o2, o3, oe⟩ := out
      obtain ⟨V1, v1, v2, v3, e1⟩ := ih x (by simp) _ h1 o o1 (by omega)
      obtain ⟨V2, u1, u2, u3, e2⟩ := ih y (by simp) _ h2 V1 v1 (by omega)
      refine ⟨V2, u1, fun z => ?_, by omega, Ev.succ (g := fun k => spec_l8Planes.fs k (spec_l8Planes.f k) (.mk b p [x, y]) l) ?_ (fun k => spec_l8Planes.fS k _ _)⟩
      · rw [u2, v2, o2, ep]; simp only [List.mem_append, List.mem_singleton, or_assoc, or_left_comm, or_comm]
      · simp only [spec_l8Planes.fs, leaf_f, T1_eq, Option.bind_some, eq_iff, Tree.kids, Tree.p, List.length_cons, List.length_nil, show ((0 + 1 + 1 : Nat) : Int) = 2 from rfl, show ¬ ((2 : Int) = 0) by omega, if_false, l3Flip_f _ hb]
        refine (sCmp_ev p (flp p)).bind ?_
        have tail : Ev (fun k => (spec_l8Planes.f k x o).bind fun t => (spec_l8Planes.f k y t).bind fun t8 => some t8) V2 := e1.bind (e2.bind (.now fun _ => rfl))
        have eqb : ∀ u v : S4, (!(u.a == v.a && (u.b == v.b && (u.c == v.c && u.d == v.d)))) = decide (u ≠ v) := fun u v => by
          by_cases e : u = v
          · subst e; simp
          · have : ¬ (u.a = v.a ∧ u.b = v.b ∧ u.c = v.c ∧ u.d = v.d) := fun ⟨h1, h2, h3, h4⟩ => e (by cases u; cases v; simp_all)
            rw [decide_eq_true e, Bool.not_eq_true', Bool.eq_false_iff]
            intro h
            simp only [Bool.and_eq_true, beq_iff_eq] at h
            exact this h
        have lj : lt47 (0 + j) = true := lt47_ok (by omega)
        have lj2 : lt47 (j + (0 + 1)) = true := lt47_ok (by omega)
        have lj3 : lt47 (j + (0 + 1) + (l.length - j)) = true := lt47_ok (by omega)
        have wrap : ∀ q : S4, q = gr p → Ev (fun k => spec_l8Planes.l7 k (spec_l8Planes.f k) k l (l.length : Int) (.mk b p [x, y]) q) ((l, (), (), (j : Int), ()), (Tree.mk b p [x, y], gr p, ())) := fun q hq => by subst hq; exact hr.ev
        by_cases c : cfPlane p (flp p) < 0
        · simp only [decide_eq_true c, if_true]
          refine (wrap (flp p) (by unfold gr; rw [if_pos c])).bind ?_
          simp only [eq_iff, eqb, decide_eq_true_eq, if_pos (Int.natCast_nonneg _), if_pos (show (j : Int) ≤ (l.length : Int) by omega), Int.toNat_natCast, List.nil_append, List.length_nil, List.length_append, List.length_cons, tl, dl, lj, lj2, lj3, if_true, Tree.kids, show ((0 + 1 + 1 : Nat) : Int) = 2 from rfl, if_pos (show (0 : Int) < 2 by omega), if_pos (show (1 : Int) < 2 by omega), if_pos (show (0 : Int) ≤ 1 by omega), Int.le_refl, r0, r1]
          by_cases cj : (j : Int) = 0
          · simp only [if_pos cj]
            rw [if_pos (.inl (by omega))] at oe
            rw [← oe]; exact tail
          · simp only [if_neg cj, wj (by omega), if_pos (show ((j - 1 : Nat) : Int) < (l.length : Int) by omega), if_pos (Int.natCast_nonneg (j - 1)), rj (by omega)]
            by_cases ce : l.getD (j - 1) default ≠ gr p
            · simp only [if_pos ce]
              rw [if_pos (.inr ce)] at oe
              rw [← oe]; exact tail
            · simp only [if_neg ce]
              rw [if_neg (fun h => h.elim (fun h => by omega) ce)] at oe
              rw [← oe]; exact tail
        · simp only [decide_eq_false c, Bool.false_eq_true, if_false]
          refine (wrap p (by unfold gr; rw [if_neg c])).bind ?_
          simp only [eq_iff, eqb, decide_eq_true_eq, if_pos (Int.natCast_nonneg _), if_pos (show (j : Int) ≤ (l.length : Int) by omega), Int.toNat_natCast, List.nil_append, List.length_nil, List.length_append, List.length_cons, tl, dl, lj, lj2, lj3, if_true, Tree.kids, show ((0 + 1 + 1 : Nat) : Int) = 2 from rfl, if_pos (show (0 : Int) < 2 by omega), if_pos (show (1 : Int) < 2 by omega), if_pos (show (0 : Int) ≤ 1 by omega), Int.le_refl, r0, r1]
          by_cases cj : (j : Int) = 0
          · simp only [if_pos cj]
            rw [if_pos (.inl (by omega))] at oe
            rw [← oe]; exact tail
          · simp only [if_neg cj, wj (by omega), if_pos (show ((j - 1 : Nat) : Int) < (l.length : Int) by omega), if_pos (Int.natCast_nonneg (j - 1)), rj (by omega)]
            by_cases ce : l.getD (j - 1) default ≠ gr p
            · simp only [if_pos ce]
              rw [if_pos (.inr ce)] at oe
              rw [← oe]; exact tail
            · simp only [if_neg ce]
              rw [if_neg (fun h => h.elim (fun h => by omega) ce)] at oe
              rw [← oe]; exact tail
theorem PlanesOf_same {T : Tree} (hT : TW T) : ∃ V : List S4, V.length ≤ 300 ∧ Ev (fun k => impl_PlanesOf.f k T) V ∧ Ev (fun k => spec_PlanesOf.f k T) V := by
  unfold impl_PlanesOf.f spec_PlanesOf.f
  simp only [T1_eq]
  cases hs : sok T with
  | false =>
    refine ⟨[], by simp, (impl_SolidOk_ev hT).bind ?_, (spec_SolidOk_ev hT).bind ?_⟩
    · rw [hs]; exact .now fun _ => rfl
    · rw [hs]; exact .now fun _ => rfl
  | true =>
    obtain ⟨h1, h2⟩ := sok_look hs
    obtain ⟨a1, a2⟩ := planes_ok hT [] h1 h2
    obtain ⟨V, o1, o2, o3, e⟩ := l8Planes_ok hT [] h1 [] ⟨fun x hx => (by cases hx), List.Pairwise.nil⟩ (by simp; omega)
    rw [List.length_nil] at o3
    have oo : OrdP (compV (srt cfPlane (pls T))) := comp_ord cmpPlane_ok (fun x _ => okP x) (srt_up cmpPlane_ok fun x _ => okP x)
    have ev : compV (srt cfPlane (pls T)) = V := ord_eq cmpPlane_ok oo o1 fun x => by rw [comp_mem, srt_mem, o2]; simp
    refine ⟨V, by omega, (impl_SolidOk_ev hT).bind ?_, (spec_SolidOk_ev hT).bind ?_⟩
    · rw [hs]
      simp only [Bool.not_true, Bool.false_eq_true, if_false]
      refine Ev.one (f := fun k => impl_Solid_planesOf.f k T) (g := fun t => t) (a := V) ?_
      unfold impl_Solid_planesOf.f
      simp only [T1_eq]
      refine a2.bind ?_
      have h1 : (pls T).all okPlane = true := List.all_eq_true.2 fun x _ => okP x
      have h2 : (srt cfPlane (pls T)).length = (pls T).length := List.length_mergeSort _
      simp only [slices_SortFunc174.f, slices_Compact177.f, slices_Clip176.f, sortV, compF, h1, lt47_ok (show (pls T).length < 2199023255552 by omega), Bool.and_self, if_true, Option.bind_some, h2, ev]
      exact .now fun _ => rfl
    · rw [hs]
      simp only [Bool.not_true, Bool.false_eq_true, if_false]
      exact e.bind (.now fun _ => rfl)
theorem eqPlane_selfQ (k : Nat) (p : S4) : laws_eqPlane.f k p p = some true := by simp [laws_eqPlane.f]
theorem eqPlaneS_l4 {l : List S4} (hl : l.length ≤ 2097152) : ∀ (d i : Nat), l.length - i = d → i ≤ l.length → Lv (fun k m => laws_eqPlaneS.l4 k m l l (i : Int)) (.inr ((), ())) := by
  intro d
  induction d with
  | zero =>
    intro i hd hi
    refine Lv.step (g := fun k m => laws_eqPlaneS.s4 k (laws_eqPlaneS.l4 k m) l l (i : Int)) ?_ (fun _ _ => rfl)
    simp only [laws_eqPlaneS.s4, decide_eq_true_eq, if_neg (show ¬ (i : Int) < (l.length : Int) by omega)]
    exact .now fun _ _ => rfl
  | succ d ih =>
    intro i hd hi
    have hi' : i < l.length := by omega
    refine Lv.step (g := fun k m => laws_eqPlaneS.s4 k (laws_eqPlaneS.l4 k m) l l (i : Int)) ?_ (fun _ _ => rfl)
    simp only [laws_eqPlaneS.s4, eqPlane_selfQ, Option.bind_some, decide_eq_true_eq, if_pos (show (i : Int) < (l.length : Int) by omega), if_pos (Int.natCast_nonneg _), wrn hi' hl, Bool.not_true, Bool.false_eq_true, if_false]
    exact ih (i + 1) (by omega) (by omega)
theorem eqPlaneS_ev {l : List S4} (hl : l.length ≤ 2097152) : Ev (fun k => laws_eqPlaneS.f k l l) true := by
  simp only [laws_eqPlaneS.f, ne_iff, ne_eq, not_true_eq_false, if_false]
  exact (eqPlaneS_l4 hl l.length 0 (by omega) (by omega)).ev.bind (.now fun _ => rfl)
def mk4 (j : Nat) : S4 := ⟨1 + 4 * (j : Int), 1 + 4 * (j : Int) + 1, 1 + 4 * (j : Int) + 2, 1 + 4 * (j : Int) + 3⟩
theorem markPlaneS_l2 {n : Nat} (hl : n ≤ 2097152) : ∀ (d i : Nat), n - i = d → i ≤ n → ∀ o : List S4, o.length = n → (∀ j : Nat, j < i → o[j]? = some (mk4 j)) →
    ∃ r : List S4, r.length = n ∧ (∀ j : Nat, j < n → r[j]? = some (mk4 j)) ∧ Lv (fun k m => laws_markPlaneS.l2 k m (1 + 4 * (i : Int)) (i : Int) o) (((), 1 + 4 * (n : Int), ()), (r, ())) := by
  intro d
  induction d with
  | zero =>
    intro i hd hi o ho hj
    obtain rfl : i = n := by omega
    refine ⟨o, ho, hj, ?_⟩
    refine Lv.step (g := fun k m => laws_markPlaneS.s2 k (laws_markPlaneS.l2 k m) (1 + 4 * (i : Int)) (i : Int) o) ?_ (fun _ _ => rfl)
    simp only [laws_markPlaneS.s2, decide_eq_true_eq, if_neg (show ¬ (i : Int) < (o.length : Int) by omega)]
    exact .now fun _ _ => rfl
  | succ d ih =>
    intro i hd hi o ho hj
    have hi' : i < o.length := by omega
    have w0 : W ((i : Int) + 1) = ((i + 1 : Nat) : Int) := by rw [W_id (by omega) (by omega)]; omega
    have w1 : W (1 + 4 * (i : Int) + 1) = 1 + 4 * (i : Int) + 1 := W_id (by omega) (by omega)
    have w2 : W (1 + 4 * (i : Int) + 1 + 1) = 1 + 4 * (i : Int) + 2 := by rw [W_id (by omega) (by omega)]; omega
    have w3 : W (1 + 4 * (i : Int) + 2 + 1) = 1 + 4 * (i : Int) + 3 := by rw [W_id (by omega) (by omega)]; omega
    have w4 : W (1 + 4 * (i : Int) + 3 + 1) = 1 + 4 * ((i + 1 : Nat) : Int) := by rw [W_id (by omega) (by omega)]; omega
    obtain ⟨r, h1, h2, h3⟩ := ih (i + 1) (by omega) (by omega) (o.set i (mk4 i)) (by simp [ho]) (fun j hj' => by
      rw [List.getElem?_set]
      by_cases c : i = j
      · subst c; rw [if_pos rfl, if_pos hi']
      · rw [if_neg c]; exact hj j (by omega))
    refine ⟨r, h1, h2, Lv.step (g := fun k m => laws_markPlaneS.s2 k (laws_markPlaneS.l2 k m) (1 + 4 * (i : Int)) (i : Int) o) ?_ (fun _ _ => rfl)⟩
    have gs : ∀ (l : List S4) (x : S4), i < l.length → (l.set i x).getD i default = x := fun l x h => by simp [List.getD_eq_getElem?_getD, h]
    have hs : ∀ (l : List S4) (x y : S4), (l.set i x).set i y = l.set i y := fun l x y => List.set_set ..
    simp only [laws_markPlaneS.s2, decide_eq_true_eq, List.length_set, Int.toNat_natCast, if_pos (show (i : Int) < (o.length : Int) by omega), if_pos (Int.natCast_nonneg _), if_pos hi', w0, w1, w2, w3, w4, gs _ _ hi', hs]
    exact h3
theorem markPlaneS_ev {l : List S4} (hl : l.length ≤ 2097152) : ∃ r : List S4, r.length = l.length ∧ (∀ j : Nat, j < l.length → r[j]? = some (mk4 j)) ∧ Ev (fun k => laws_markPlaneS.f k l 1) (1 + 4 * (l.length : Int), r) := by
  obtain ⟨r, h1, h2, h3⟩ := markPlaneS_l2 hl l.length 0 (by omega) (by omega) l rfl (fun j hj => absurd hj (Nat.not_lt_zero j))
  refine ⟨r, h1, h2, ?_⟩
  simp only [laws_markPlaneS.f]
  exact h3.ev.one (g := fun x1 => (x1.1.2.1, x1.2.1))
theorem heldPlaneS_l2 {r : List S4} {n : Nat} (hn : r.length = n) (hl : n ≤ 2097152) (h : ∀ j : Nat, j < n → r[j]? = some (mk4 j)) : ∀ (d i : Nat), n - i = d → i ≤ n → Lv (fun k m => laws_heldPlaneS.l2 k m r (1 + 4 * (i : Int)) (i : Int)) (.inr ((1 + 4 * (n : Int), ()), ())) := by
  intro d
  induction d with
  | zero =>
    intro i hd hi
    obtain rfl : i = n := by omega
    refine Lv.step (g := fun k m => laws_heldPlaneS.s2 k (laws_heldPlaneS.l2 k m) r (1 + 4 * (i : Int)) (i : Int)) ?_ (fun _ _ => rfl)
    simp only [laws_heldPlaneS.s2, decide_eq_true_eq, if_neg (show ¬ (i : Int) < (r.length : Int) by omega)]
    exact .now fun _ _ => rfl
  | succ d ih =>
    intro i hd hi
    have hi' : i < n := by omega
    have e : rd r (i : Int) = mk4 i := by simp [rd, List.getD_eq_getElem?_getD, h i hi']
    have w0 : W ((i : Int) + 1) = ((i + 1 : Nat) : Int) := by rw [W_id (by omega) (by omega)]; omega
    have w1 : W (1 + 4 * (i : Int) + 1) = 1 + 4 * (i : Int) + 1 := W_id (by omega) (by omega)
    have w2 : W (1 + 4 * (i : Int) + 1 + 1) = 1 + 4 * (i : Int) + 2 := by rw [W_id (by omega) (by omega)]; omega
    have w3 : W (1 + 4 * (i : Int) + 2 + 1) = 1 + 4 * (i : Int) + 3 := by rw [W_id (by omega) (by omega)]; omega
    have w4 : W (1 + 4 * (i : Int) + 3 + 1) = 1 + 4 * ((i + 1 : Nat) : Int) := by rw [W_id (by omega) (by omega)]; omega
    refine Lv.step (g := fun k m => laws_heldPlaneS.s2 k (laws_heldPlaneS.l2 k m) r (1 + 4 * (i : Int)) (i : Int)) ?_ (fun _ _ => rfl)
    simp only [laws_heldPlaneS.s2, decide_eq_true_eq, if_pos (show (i : Int) < (r.length : Int) by omega), if_pos (Int.natCast_nonneg _), e, mk4, w0, w1, w2, w3, w4, bne_self_eq_false, Bool.false_eq_true, if_false]
    exact ih (i + 1) (by omega) (by omega)
theorem heldPlaneS_ev {r : List S4} {n : Nat} (hn : r.length = n) (hl : n ≤ 2097152) (h : ∀ j : Nat, j < n → r[j]? = some (mk4 j)) : Ev (fun k => laws_heldPlaneS.f k r 1) (1 + 4 * (n : Int)) := by
  simp only [laws_heldPlaneS.f]
  exact (heldPlaneS_l2 hn hl h n 0 (by omega) (by omega)).ev.bind (.now fun _ => rfl)
theorem FnExactPlanesOf_pure {T : Tree} (hM : TM T) : ∃ k, laws_FnExactPlanesOf.f k T = some true := by
  have key : Ev (fun k => laws_FnExactPlanesOf.f k T) true := by
    simp only [laws_FnExactPlanesOf.f, T1_eq, decide_eq_true_eq]
    refine law_of hM (R := fun k T => _) fun hT hc => ?_
    obtain ⟨v, hv, s2, s1⟩ := PlanesOf_same hT
    have hb : 1 + 5 * (cntL T.kids : Int) ≤ 4611686018427387904 := by omega
    obtain ⟨u, u1, u2, m2⟩ := markPlaneS_ev (l := v) (by omega)
    have hd := heldPlaneS_ev u1 (by omega) u2
    have ei := eqPlaneS_ev (l := v) (by omega)
    have tt := to_ok hT
    refine tt.bind (s1.bind (tt.bind (s2.bind (ei.bind ?_))))
    simp only [Bool.not_true, Bool.false_eq_true, if_false]
    refine tt.bind ((eq_ok hT).bind ?_)
    simp only [Bool.not_true, Bool.false_eq_true, if_false, markSolid_f _ hb, Option.bind_some, if_neg (show ¬ 1 + 5 * (cntL T.kids : Int) < 0 by omega)]
    refine ei.bind ?_
    simp only [Bool.not_true, Bool.false_eq_true, if_false]
    refine m2.bind (hd.bind ?_)
    simp only [if_neg (show ¬ 1 + 4 * (v.length : Int) < 0 by omega), bne_self_eq_false, Bool.false_eq_true, if_false]
    refine tt.bind (s2.bind (ei.bind ?_))
    simp only [Bool.not_true, Bool.false_eq_true, if_false]
    refine hd.bind (.now fun _ => ?_)
    simp only [if_neg (show ¬ 1 + 4 * (v.length : Int) < 0 by omega), bne_self_eq_false, Bool.false_eq_true, if_false]
  obtain ⟨K, h⟩ := key
  exact ⟨K, h K (Nat.le_refl _)⟩
end Go.Proofs.Ytlkcpldohlemcaa.Q
