/- Rows of spots in order, each once. -/
import Derived.Test.YtlkcpldohlemcaaM1
import Derived.Test.YtlkcpldohlemcaaSh
namespace Go.Proofs.Ytlkcpldohlemcaa.Q
open Go Go.RowKit Go.Proofs Go.Proofs.Ytlkcpldohlemcaa.Ev Go.Proofs.Ytlkcpldohlemcaa.G
set_option linter.unusedSimpArgs false
set_option linter.unusedVariables false

/-- in order, each once, under a comparison that is told of on what is right. -/
structure Ord (P : Program) (g : Nat) (ok : S4 → Bool) (cf : S4 → S4 → Int) (l : List S4) : Prop where
  ok : ∀ x ∈ l, ok x = true
  up : l.Pairwise fun x y => cf x y < 0
section
variable {P : Program} {g : Nat} {ok : S4 → Bool} {cf : S4 → S4 → Int} (hc : CmpOk P g ok cf)
include hc
theorem asym {x y : S4} (hx : ok x = true) (hy : ok y = true) (h : cf x y < 0) : ¬ cf y x < 0 := fun h2 => hc.irr x hx (hc.tr x y x hx hy hx h h2)
/-- the same members: the same row. -/
theorem ord_eq : ∀ {l m : List S4}, Ord P g ok cf l → Ord P g ok cf m → (∀ x, x ∈ l ↔ x ∈ m) → l = m
  | [], [], _, _, _ => rfl
  | [], y :: m, _, _, h => by have := (h y).2 (by simp); cases this
  | x :: l, [], _, _, h => by have := (h x).1 (by simp); cases this
  | x :: l, y :: m, hl, hm, h => by
    have hl1 := List.pairwise_cons.1 hl.up
    have hm1 := List.pairwise_cons.1 hm.up
    have ox := hl.ok x (by simp); have oy := hm.ok y (by simp)
    have e : x = y := by
      rcases List.mem_cons.1 ((h x).1 (by simp)) with e | hx
      · exact e
      rcases List.mem_cons.1 ((h y).2 (by simp)) with e | hy
      · exact e.symm
      exact absurd (hl1.1 y hy) (asym hc oy ox (hm1.1 x hx))
    subst e
    congr 1
    refine ord_eq ⟨fun z hz => hl.ok z (List.mem_cons_of_mem _ hz), hl1.2⟩ ⟨fun z hz => hm.ok z (List.mem_cons_of_mem _ hz), hm1.2⟩ fun z => ⟨fun hz => ?_, fun hz => ?_⟩
    · rcases List.mem_cons.1 ((h z).1 (List.mem_cons_of_mem _ hz)) with e | hz'
      · exact absurd (hl1.1 z hz) (by rw [e]; exact hc.irr x ox)
      · exact hz'
    · rcases List.mem_cons.1 ((h z).2 (List.mem_cons_of_mem _ hz)) with e | hz'
      · exact absurd (hm1.1 z hz) (by rw [e]; exact hc.irr x ox)
      · exact hz'
omit hc in
theorem srt_mem {l : List S4} {x : S4} : x ∈ srt cf l ↔ x ∈ l := (List.mergeSort_perm l _).mem_iff
/-- sorted: none later is less. -/
theorem srt_up {l : List S4} (hl : ∀ x ∈ l, ok x = true) : (srt cf l).Pairwise fun x y => ¬ cf y x < 0 := by
  have hm : ((l.attachWith (fun x => ok x = true) hl).mergeSort fun x y => !decide (cf y.1 x.1 < 0)).map Subtype.val = srt cf l := by
    unfold srt
    have := List.map_mergeSort (r := fun (x y : { x : S4 // ok x = true }) => !decide (cf y.1 x.1 < 0)) (s := fun x y => !decide (cf y x < 0)) (f := Subtype.val) (l := l.attachWith (fun x => ok x = true) hl) fun a _ b _ => rfl
    rw [this]; simp
  rw [← hm]
  have := List.pairwise_mergeSort (le := fun (x y : { x : S4 // ok x = true }) => !decide (cf y.1 x.1 < 0)) (fun a b c h1 h2 => by
    simp only [Bool.not_eq_true', decide_eq_false_iff_not] at h1 h2 ⊢
    exact hc.ntr _ _ _ c.2 b.2 a.2 h2 h1) (fun a b => by
    by_cases h : cf b.1 a.1 < 0
    · have := asym hc b.2 a.2 h
      simp [this]
    · simp [h]) (l.attachWith (fun x => ok x = true) hl)
  rw [List.pairwise_map]
  exact this.imp fun {a b} h => by simpa using h
omit hc in
theorem comp_mem {l : List S4} {x : S4} : x ∈ compV l ↔ x ∈ l := by
  unfold compV Lib.compact Lib.compactUpTo
  simp only [List.mem_map, List.mem_filter, List.mem_range]
  have gl : ∀ j (h : j < l.length), l.toArray[j]! = l[j] := fun j h => by rw [getElem!_pos l.toArray j (by simpa using h)]; simp
  constructor
  · rintro ⟨j, ⟨hj, _⟩, rfl⟩
    rw [gl j hj]; exact List.getElem_mem hj
  · intro hx
    obtain ⟨j, hj, hxj⟩ := List.getElem_of_mem hx
    -- the first place that holds it
    have : ∀ n, n < l.length → l[n]! = x → ∃ a, (a < l.length ∧ Lib.keeps l.toArray a = true) ∧ l.toArray[a]! = x := by
      intro n
      induction n with
      | zero =>
        intro h e
        refine ⟨0, ⟨h, by simp [Lib.keeps]⟩, ?_⟩
        rw [gl 0 h]; rw [getElem!_pos l 0 h] at e; exact e
      | succ n ih =>
        intro h e
        by_cases c : l[n]! = x
        · exact ih (by omega) c
        · refine ⟨n + 1, ⟨h, ?_⟩, ?_⟩
          · unfold Lib.keeps
            rw [decide_eq_true_eq]; right
            rw [gl (n + 1) h, show n + 1 - 1 = n by omega, gl n (by omega)]
            rw [getElem!_pos l (n + 1) h] at e; rw [getElem!_pos l n (by omega)] at c
            rw [e]; exact fun h => c h.symm
          · rw [gl _ h]; rw [getElem!_pos l (n + 1) h] at e; exact e
    exact this j hj (by rw [getElem!_pos l j hj]; exact hxj)
theorem comp_ord {l : List S4} (hl : ∀ x ∈ l, ok x = true) (hs : l.Pairwise fun x y => ¬ cf y x < 0) : Ord P g ok cf (compV l) where
  ok := fun x hx => hl x (comp_mem.1 hx)
  up := by
    unfold compV Lib.compact Lib.compactUpTo
    rw [List.pairwise_map]
    have gl : ∀ j (h : j < l.length), l.toArray[j]! = l[j] := fun j h => by rw [getElem!_pos l.toArray j (by simpa using h)]; simp
    have hp := (List.pairwise_lt_range (n := l.length)).filter (Lib.keeps l.toArray)
    refine hp.imp_of_mem fun {a b} ha hb hab => ?_
    obtain ⟨ha, _⟩ := List.mem_filter.1 ha
    obtain ⟨hb, hk⟩ := List.mem_filter.1 hb
    rw [List.mem_range] at ha hb
    rw [gl a ha, gl b hb]
    unfold Lib.keeps at hk
    rw [decide_eq_true_eq] at hk
    have hne := hk.resolve_left (by omega)
    rw [gl b hb, gl (b - 1) (by omega)] at hne
    have oa := hl _ (List.getElem_mem ha); have ob := hl _ (List.getElem_mem hb); have oc := hl _ (List.getElem_mem (show b - 1 < l.length by omega))
    have le : ∀ i j (hi : i < l.length) (hj : j < l.length), i < j → ¬ cf l[j] l[i] < 0 := fun i j hi hj hij => List.pairwise_iff_getElem.1 hs i j hi hj hij
    -- l[b-1] < l[b]
    have h1 : cf l[b - 1] l[b] < 0 := Decidable.byContradiction fun h => hne (hc.tot _ _ ob oc (le (b - 1) b (by omega) hb (by omega)) h)
    by_cases e : a = b - 1
    · subst e; exact h1
    · have h2 := le a (b - 1) ha (by omega) (by omega)
      exact Decidable.byContradiction fun h => (hc.ntr _ _ _ oc oa ob h2 h) h1
end
end Go.Proofs.Ytlkcpldohlemcaa.Q
