/- What is promised of slices.SortFunc and slices.Compact at rows of four whole numbers, in the evaluator's words. -/
import Derived.Test.YtalkkenkeilmpaaGreatEv16
import Derived.Test.YtalkkenkeilmpaaGreatCm
import Derived.Shelf.SlSortCmp.NoneTotal
import Derived.Lib.QuietBelow
namespace Go.Proofs.YtalkkenkeilmpaaGreat.Ev
open Go Go.RowKit Go.Proofs Go.Shelf Go.Lib Go.Sort
set_option linter.unusedVariables false
set_option linter.unusedSimpArgs false

def enc4 (p : S4) : List Value := [.int .i64 p.a, .int .i64 p.b, .int .i64 p.c, .int .i64 p.d]
theorem enc4_len (p : S4) : (enc4 p).length = 4 := rfl
theorem enc4_one (p : S4) : ∀ v ∈ enc4 p, v.oneCell' = true := fun v hv => by
  simp only [enc4, List.mem_cons, List.not_mem_nil, or_false] at hv
  rcases hv with rfl | rfl | rfl | rfl <;> rfl
theorem cell4 (p : S4) (c : Nat) (hc : c < 4) : El.cell .s4 p c = .v (enc4 p)[c]! := by
  match c, hc with
  | 0, _ => rfl
  | 1, _ => rfl
  | 2, _ => rfl
  | 3, _ => rfl
/-- a row's cells as the shelf's word says them. -/
theorem row_holds {α : Type} [Inhabited α] (f : α → S4) {w : World} {b : Nat} {cur : Array Value} {ty : TypeId} (hb : w.heap[b]? = some (.cells cur ty (0, 0))) {l : List S4} {d : Array α} (hl : d.toList.map f = l) {xs : List Value} (hx : cur.toList.take (l.length * 4) = xs) (hxl : xs.length = l.length * 4) {ro : Nat → Prop}
    (h : ∀ j c, j < l.length → c < 4 → ∃ x, xs[j * 4 + c]? = some x ∧ Rep w ro x (El.cell .s4 (l.getD j default) c)) : HoldsK (fun x => enc4 (f x)) 4 w b 0 d := by
  have hn : d.size = l.length := by rw [← hl]; simp
  intro t ht
  rw [size_flatK, hn] at ht
  have hd : t / 4 < l.length := by omega
  have hm : t % 4 < 4 := by omega
  obtain ⟨x, h1, h2⟩ := h (t / 4) (t % 4) hd hm
  rw [cell4 _ _ hm] at h2
  cases h2
  have e : t / 4 * 4 + t % 4 = t := by omega
  rw [e] at h1
  have e2 : (enc4 (f d[t / 4]!))[t % 4]! = (enc4 (l.getD (t / 4) default))[t % 4]! := by
    have h3 : l.getD (t / 4) default = f d[t / 4]! := by
      rw [← hl, List.getD_eq_getElem?_getD, List.getElem?_map, getElem!_pos d (t / 4) (by omega), Array.getElem?_toList, Array.getElem?_eq_getElem (by omega)]; rfl
    rw [h3]
  rw [get_flatK _ _ _ t (by omega), e2]
  have h4 : cur[t]? = some (enc4 (l.getD (t / 4) default))[t % 4]! := by
    have : xs[t]? = cur.toList[t]? := by rw [← hx, List.getElem?_take, if_pos ht]
    rw [this, Array.getElem?_toList] at h1; exact h1
  refine ⟨?_, ?_⟩
  · show w.cell? ⟨b, 0 + t, none⟩ = _
    unfold World.cell?
    simp only [hb, Nat.zero_add, Option.isSome_none, Bool.false_eq_true, if_false]; exact h4
  · unfold World.frozen?
    simp only [hb, Nat.zero_add]
    simp
/-- what holds a row can be read. -/
theorem holds_rep {w : World} {ro : Nat → Prop} {b cap : Nat} {l : List S4} {m : Nat} (hm : m ≤ l.length) (h : HoldsK enc4 4 w b 0 l.toArray) (hc : m ≤ cap) (hr : ro b) : Rep w ro (.slice (some ⟨b, 0, none⟩) m cap) (.sl .s4 (l.take m)) := by
  have hl : (l.take m).length = m := by rw [List.length_take]; omega
  have := Rep.sl (w := w) (ro := ro) (some ⟨b, 0, none⟩) cap .s4 (l.take m) (fun j c => (enc4 (l.getD j default))[c]!) (by omega) (fun e => by cases e) (fun j hj => ⟨⟨b, 0, none⟩, rfl, rfl, hr, fun c hcc => ?_⟩) (fun j c hj hcc => ?_)
  · rwa [hl] at this
  · have hj' : j < l.toArray.size := by simp; omega
    have hcc : c < 4 := hcc
    have := (h.cell hj' hcc).1
    have e : l.toArray[j]! = l.getD j default := by rw [getElem!_pos l.toArray j hj', List.getD_eq_getElem?_getD, List.getElem?_eq_getElem (by simpa using hj')]; simp
    rw [e, Nat.zero_add] at this
    show w.cell? ⟨b, 0 + (j * 4 + c), none⟩ = _
    rw [Nat.zero_add]; exact this
  · have e : (l.take m).getD j default = l.getD j default := by simp [List.getD_eq_getElem?_getD, List.getElem?_take, show j < m by omega]
    have hcc : c < 4 := hcc
    have : El.cell .s4 ((l.take m).getD j default) c = .v (enc4 (l.getD j default))[c]! := by rw [e]; exact cell4 _ _ hcc
    rw [show El.cell .s4 ((l.take m).getD j default) c = AV.v (enc4 (l.getD j default))[c]! from this]
    exact .v _
/-- a world with a row laid anew, grown. -/
theorem put_below {w : World} {b q : Nat} {F : Array Value} {os : Array Obj} {k : Blk} {A : Nat → Prop} {β : Option Blk} (hk : ∀ x, x = b → owns .one k x) : BelowX ⟨w, owns .one k, A, β⟩ (grow (putRow id (Sort.ahead w q) b 0 F) os) where
  os := rfl
  tape := rfl
  output := rfl
  size := by simp [grow, putRow, mapBlock, Sort.ahead, Base.heap]
  block := fun x hx hn => by
    have hxb : x ≠ b := fun e => hn (hk x e)
    have hx' : x < w.heap.size := hx
    show (((Sort.ahead w q).heap.modify b (onCells (putCells id 0 F))) ++ os)[x]? = w.heap[x]?
    rw [Array.getElem?_append_left (by simpa [Sort.ahead] using hx'), Array.getElem?_modify, if_neg (Ne.symm hxb)]
    rfl
  drawn := Nat.le_add_right _ _
theorem put_heap {w : World} {b q : Nat} {F : Array Value} {os : Array Obj} {cur : Array Value} {ty : TypeId} (hb : w.heap[b]? = some (.cells cur ty (0, 0))) : (grow (putRow id (Sort.ahead w q) b 0 F) os).heap[b]? = some (.cells (putCells id 0 F cur) ty (0, 0)) := by
  have hlt := (Array.getElem?_eq_some_iff.1 hb).1
  show (((Sort.ahead w q).heap.modify b (onCells (putCells id 0 F))) ++ os)[b]? = _
  rw [Array.getElem?_append_left (by simpa [Sort.ahead] using hlt), Array.getElem?_modify, if_pos rfl]
  show Option.map _ w.heap[b]? = _
  rw [hb]; rfl
theorem put_take {F cur : Array Value} (h : F.size ≤ cur.size) : (putCells id 0 F cur).toList.take F.size = F.toList := by
  apply List.ext_getElem?
  intro i
  rw [List.getElem?_take]
  by_cases c : i < F.size
  · rw [if_pos c, Array.getElem?_toList, Array.getElem?_toList]
    simp only [putCells, Array.getElem?_mapIdx]
    rw [Array.getElem?_eq_getElem (by omega), Option.map_some, if_pos ⟨by omega, by omega⟩, Array.getElem?_eq_getElem c]
    simp [getElem!_pos F i c]
  · rw [if_neg c, Array.getElem?_toList, Array.getElem?_eq_none (by omega)]

/-- a comparison that is told of. -/
structure CmpOk (P : Program) (g : Nat) (ok : S4 → Bool) (cf : S4 → S4 → Int) : Prop where
  can : callable P g = true
  runs : ∀ x y, ok x = true → ok y = true → ∀ w, Calls P g #[.agg (enc4 x).toArray, .agg (enc4 y).toArray] w fun e w' => e = .returned (.int .i64 (cf x y)) ∧ BelowD w w'
  irr : ∀ x, ok x = true → ¬ cf x x < 0
  tr : ∀ x y z, ok x = true → ok y = true → ok z = true → cf x y < 0 → cf y z < 0 → cf x z < 0
  ntr : ∀ x y z, ok x = true → ok y = true → ok z = true → ¬ cf x y < 0 → ¬ cf y z < 0 → ¬ cf x z < 0
  tot : ∀ x y, ok x = true → ok y = true → ¬ cf x y < 0 → ¬ cf y x < 0 → x = y
theorem grow_of {w w' : World} (h : BelowD w w') : ∃ q os', w' = grow (w.drewN q) os' := by
  obtain ⟨p, hp⟩ := regrown_of_below h.toBelow
  have hd : w'.drawn = p.d := by rw [hp]; rfl
  refine ⟨p.d - w.drawn, p.os, ?_⟩
  have := h.drawn
  have e : w.drawn + (p.d - w.drawn) = p.d := by omega
  rw [hp]
  show grow { w with drawn := p.d } p.os = grow { w with drawn := w.drawn + (p.d - w.drawn) } p.os
  rw [e]
def srt (cf : S4 → S4 → Int) (l : List S4) : List S4 := l.mergeSort fun x y => !decide (cf y x < 0)
def sortV (ok : S4 → Bool) (cf : S4 → S4 → Int) (l : List S4) : Option (List S4) := if (l.all ok && lt47 l.length) = true then some (srt cf l) else none
def sortGo (t g : Nat) : Box → List AV → Option (List S4)
  | .row t' .s4 l, [.v (.func (.func g') ⟨[]⟩ ⟨[]⟩)] => (match Nat.beq t' t, Nat.beq g' g with | true, true => some l | _, _ => none)
  | _, _ => none
def sortG (t g : Nat) (f : List S4 → Option (List S4)) : GV := { δ := List S4, β := List S4, sk := .row, go := sortGo t g, f := f, rt := fun _ _ => .many [], bx := fun _ b => .row t .s4 b }
theorem sortGo_some {t g : Nat} {bx : Box} {az : List AV} {l : List S4} (h : sortGo t g bx az = some l) : bx = .row t .s4 l ∧ az = [.v (.func (.func g) #[] #[])] := by
  unfold sortGo at h
  split at h
  · split at h
    · rename_i h1 h2; cases h; rw [beq_iff] at h1 h2; subst h1 h2; exact ⟨rfl, rfl⟩
    · cases h
  · cases h
theorem sortG_H {t g : Nat} {f : List S4 → Option (List S4)} {bx bx' : Box} {az : List AV} {rt : Rt} (h : (sortG t g f).H bx az = some (rt, bx')) : ∃ l b : List S4, bx = .row t .s4 l ∧ az = [.v (.func (.func g) #[] #[])] ∧ f l = some b ∧ rt = .many [] ∧ bx' = .row t .s4 b := by
  unfold GV.H at h
  split at h
  case h_2 => cases h
  rename_i l hgo
  obtain ⟨h1, h2⟩ := sortGo_some hgo
  split at h
  case h_2 => cases h
  rename_i b hb
  cases h
  exact ⟨l, b, h1, h2, hb, rfl, rfl⟩
section
variable {P : Program} {ρ : Ren}
theorem sort_ok (L : SlLaysF0.n6 P ρ) {f t g : Nat} (hf : ρ.f 6 = f) (aE : ∀ w, (isAgg (ρ.t 24)).run P w = .ok true w) (zE : ∀ w, (Go.sizeOf (ρ.t 24)).run P w = .ok 4 w) (hcan : callable P f = true) {ok : S4 → Bool} {cf : S4 → S4 → Int} (hc : CmpOk P g ok cf) : FunS P f .row (sortG t g (sortV ok cf)).H where
  can := hcan
  runs := fun bx az rt bx' hH v0 vs w A k hA hvs hbox hv0 hown hlt hreps => by
    obtain ⟨l, b, rfl, rfl, hb, rfl, rfl⟩ := sortG_H hH
    unfold sortV at hb
    split at hb
    case isFalse => cases hb
    rename_i hok
    cases hb
    rw [Bool.and_eq_true] at hok
    obtain ⟨hok, h47⟩ := hok
    have h47 := lt47_iff.1 h47
    have hok : ∀ x ∈ l, ok x = true := List.all_eq_true.1 hok
    -- the arguments
    obtain ⟨fv, rfl⟩ : ∃ fv, vs = #[fv] := by
      have : vs.size = 1 := hvs
      exact ⟨vs[0], Array.ext (by simp [this]) fun i h1 h2 => by simp at h2; subst h2; rfl⟩
    have hfv : fv = .func (.func g) #[] #[] := rep_v_inv (hreps 0 fv _ rfl rfl)
    subst hfv
    have hv0 : v0 = k.v := hv0
    subst hv0
    obtain ⟨ht, hz, hn, hownb, xs, hrow, hcells⟩ := hbox
    have hz4 : (El.s4).z = 4 := rfl
    rw [hz4] at hcells hrow
    obtain ⟨hxl, hrow⟩ := hrow
    rw [hn] at hxl hrow
    rw [← hf]
    have srl : (srt cf l).length = l.length := List.length_mergeSort _
    have nil : ∀ (p : Option Addr) (cap : Nat), l = [] → k.v = .slice p 0 cap → Calls P (ρ.f 6) (#[k.v] ++ #[.func (.func g) #[] #[]]) w fun e w' => ∃ v, e = .returned v ∧ BelowX ⟨w, owns (Box.row t .s4 l).kind k, A, none⟩ w' ∧ BoxRep w' (fun b => fresh w w' (give A (Box.row t .s4 l) (Box.row t .s4 (srt cf l)) k) b ∧ ¬ ownB v (.many []) b) 0 k (Box.row t .s4 (srt cf l)) ∧ ((Box.row t .s4 (srt cf l)).kind = (Box.row t .s4 l).kind ∨ (Box.row t .s4 (srt cf l)).kind = .fro) ∧ RetRep w w' (give A (Box.row t .s4 l) (Box.row t .s4 (srt cf l)) k) v (.many []) := fun p cap hl hv => by
      subst hl
      rw [hv]
      refine (AnyF.slices_SortFunc_none L p cap (.func (.func g) #[] #[]) w).mono fun e w' ⟨he, hw⟩ => ?_
      subst he hw
      refine ⟨_, rfl, ⟨rfl, rfl, rfl, Nat.le_refl _, fun _ _ _ => rfl, Nat.le_refl _⟩, ?_, .inl rfl, #[], rfl, rfl, fun i u y h => by simp at h⟩
      have e0 : srt cf [] = [] := by simp [srt]
      rw [e0]
      refine ⟨ht, hz, hn, hownb, xs, ⟨by rw [hn]; exact hxl, by rw [hn]; exact hrow⟩, fun j c hj => by cases hj⟩
    rcases hrow with ⟨hv, hl0⟩ | ⟨b, cap, cur, hv, _, hheap, hcap, hmax, hcs, htk⟩
    · exact nil none 0 (List.eq_nil_of_length_eq_zero hl0) hv
    by_cases hl0 : l.length = 0
    · have := nil (some ⟨b, 0, none⟩) cap (List.eq_nil_of_length_eq_zero hl0)
      rw [hl0] at hv
      exact this hv
    have hlen : l.length < 4611686018427387904 := by omega
    have hbl : b < w.heap.size := (Array.getElem?_eq_some_iff.1 hheap).1
    have hkb : k.own = some b := by rw [hownb, hv]; rfl
    -- the sort, over what is right
    have x0 : ok l[0] = true := hok _ (List.getElem_mem _)
    letI : Inhabited { x : S4 // ok x = true } := ⟨⟨l[0], x0⟩⟩
    let d : Array { x : S4 // ok x = true } := (l.attachWith (fun x => ok x = true) hok).toArray
    have hd : d.toList.map Subtype.val = l := by simp [d]
    have hds : d.size = l.length := by simp [d]
    have hH := row_holds (α := { x : S4 // ok x = true }) Subtype.val hheap hd htk hxl hcells
    have swo : SWO (ltOf fun x y : { x : S4 // ok x = true } => cf x.1 y.1) := ⟨fun x => decide_eq_false (hc.irr _ x.2), fun x y z h1 h2 => decide_eq_true (hc.tr _ _ _ x.2 y.2 z.2 (of_decide_eq_true h1) (of_decide_eq_true h2)), fun x y z h1 h2 => decide_eq_false (hc.ntr _ _ _ x.2 y.2 z.2 (of_decide_eq_false h1) (of_decide_eq_false h2))⟩
    have hcmp : CmpLays P g #[] (fun x : { x : S4 // ok x = true } => enc4 x.1) 4 (fun x y => cf x.1 y.1) b 0 d.size w := fun m os dk hs x y => by
      refine (hc.runs x.1 y.1 x.2 y.2 _).mono fun e w' ⟨he, hb⟩ => ⟨he, grow_of hb⟩
    have key := AnyQ.slices_SortFunc_total L 4 aE zE (fun x : { x : S4 // ok x = true } => enc4 x.1) (fun x => rfl) (fun x => enc4_one x.1) (fun x y => cf x.1 y.1) swo g #[] b 0 cap d w (fun args w => run_callFunc hc.can args w) hcmp hH hbl (by omega)
      (fun x y h1 h2 => Subtype.ext (hc.tot _ _ x.2 y.2 (of_decide_eq_false h1) (of_decide_eq_false h2)))
    rw [hds] at key
    rw [hv]
    refine key.mono fun e w' ⟨he, n, os, hw⟩ => ?_
    subst he
    generalize hd' : (d.toList.mergeSort fun x y => !(ltOf fun x y : { x : S4 // ok x = true } => cf x.1 y.1) y x).toArray = d' at hw
    have hds' : d'.size = l.length := by rw [← hd']; simp [hds]
    have hmap : d'.toList.map Subtype.val = srt cf l := by
      rw [← hd']
      unfold srt
      rw [← hd]
      simp only [List.toList_toArray]
      exact (List.map_mergeSort (s := fun x y => !decide (cf y x < 0)) fun a _ b _ => rfl)
    have hF : (flatK (fun x : { x : S4 // ok x = true } => enc4 x.1) 4 d').size = l.length * 4 := by rw [size_flatK, hds']
    have hw : w' = grow (putRow id (Sort.ahead w n) b 0 (flatK (fun x : { x : S4 // ok x = true } => enc4 x.1) 4 d')) os := hw
    have hFs : (flatK (fun x : { x : S4 // ok x = true } => enc4 x.1) 4 d').size ≤ cur.size := by
      rw [hF]; exact Nat.le_trans (Nat.mul_le_mul_right 4 hcap) hcs
    refine ⟨_, rfl, ?_, ?_, .inl rfl, #[], rfl, rfl, fun i u y h => by simp at h⟩
    · rw [hw]
      exact put_below fun x hx => by subst hx; exact hkb
    · refine ⟨ht, hz, by rw [srl]; exact hn, hownb, (flatK (fun x : { x : S4 // ok x = true } => enc4 x.1) 4 d').toList, ⟨?_, .inr ⟨b, cap, putCells id 0 (flatK (fun x : { x : S4 // ok x = true } => enc4 x.1) 4 d') cur, ?_, Nat.zero_le _, ?_, ?_, hmax, ?_, ?_⟩⟩, fun j c hj hcc => ?_⟩
      · rw [Array.length_toList, hF, hn]; rfl
      · rw [hn]; exact hv
      · rw [hw]; exact put_heap hheap
      · rw [hn]; exact hcap
      · simp only [putCells, Array.size_mapIdx]; exact hcs
      · rw [hn]
        have := put_take hFs
        rw [hF] at this; exact this
      · rw [srl] at hj
        have hcc : c < 4 := hcc
        have hlt4 : j * 4 + c < d'.size * 4 := by omega
        refine ⟨(enc4 ((srt cf l).getD j default))[c]!, ?_, ?_⟩
        · show (flatK (fun x : { x : S4 // ok x = true } => enc4 x.1) 4 d').toList[j * 4 + c]? = _
          rw [Array.getElem?_toList, Array.getElem?_eq_getElem (by rw [size_flatK]; exact hlt4)]
          have := get_flatK (fun x : { x : S4 // ok x = true } => enc4 x.1) 4 d' (j * 4 + c) hlt4
          rw [getElem!_pos _ _ (by rw [size_flatK]; exact hlt4)] at this
          rw [this]
          have e1 : (j * 4 + c) / 4 = j := by omega
          have e2 : (j * 4 + c) % 4 = c := by omega
          rw [e1, e2]
          have e3 : (srt cf l).getD j default = (d'[j]!).1 := by
            rw [← hmap, List.getD_eq_getElem?_getD, List.getElem?_map, getElem!_pos d' j (by omega), Array.getElem?_toList, Array.getElem?_eq_getElem (by omega)]; rfl
          rw [e3]
        · have : El.cell .s4 ((srt cf l).getD j default) c = .v (enc4 ((srt cf l).getD j default))[c]! := cell4 _ _ hcc
          rw [show El.cell .s4 ((srt cf l).getD j default) c = AV.v (enc4 ((srt cf l).getD j default))[c]! from this]
          exact .v _

/-! ### slices.Compact: the row is given up. -/
theorem enc4_inj {x y : S4} (h : enc4 x = enc4 y) : x = y := by
  cases x; cases y
  simp only [enc4, List.cons.injEq, Value.int.injEq, true_and, and_true] at h
  obtain ⟨h1, h2, h3, h4⟩ := h
  subst h1 h2 h3 h4; rfl
def compV (l : List S4) : List S4 := compact l
def compF (l : List S4) : Option (List S4) := if lt47 l.length = true then some (compV l) else none
theorem comp_len (l : List S4) : (compV l).length ≤ l.length := by
  unfold compV compact compactUpTo
  rw [List.length_map]
  have := List.length_filter_le (keeps l.toArray) (List.range l.length)
  rwa [List.length_range] at this
theorem RV_H {t0 : TypeId} {f : List S4 → Option (List S4)} {t : TypeId} {e : El} {l : List e.T} {bx' : Box} (h : (RV.mk t0 .s4 f).H (.row t e l) = some bx') : ∃ l0 l1 : List S4, Box.row t e l = .row t0 .s4 l0 ∧ f l0 = some l1 ∧ bx' = .row t0 .s4 l1 := by
  unfold RV.H at h
  split at h
  case h_2 => cases h
  rename_i l0 hl0
  have hl0 : (xRow t0 .s4).dec (.row t e l) = some l0 := hl0
  simp only [xRow] at hl0
  split at hl0
  case isFalse => cases hl0
  rename_i ht
  split at hl0
  case isFalse => cases hl0
  rename_i he
  cases hl0
  subst ht he
  split at h
  case h_2 => cases h
  rename_i l1 hl1
  cases h
  exact ⟨_, l1, rfl, hl1, rfl⟩
/-- a row out of what holds. -/
theorem rowW_of {w : World} {b cap : Nat} {ty : TypeId} {cur : Array Value} (hb : w.heap[b]? = some (.cells cur ty (0, 0))) {l : List S4} {m : Nat} (hm : m ≤ l.length) (h : HoldsK enc4 4 w b 0 l.toArray) (hc : m ≤ cap) (hmax : cap ≤ maxLen) (hcs : cap * 4 ≤ cur.size) {A : Nat → Prop} : BoxRep w A 0 { v := .slice (some ⟨b, 0, none⟩) m cap, own := some b, t := ty, z := 4, n := m } (.row ty .s4 (l.take m)) := by
  have hl : (l.take m).length = m := by rw [List.length_take]; omega
  have hlen : (cur.toList.take (m * 4)).length = m * 4 := by
    rw [List.length_take, Array.length_toList]
    have := Nat.mul_le_mul_right 4 hc
    omega
  refine ⟨rfl, rfl, hl.symm, rfl, cur.toList.take (m * 4), ⟨hlen, .inr ⟨b, cap, cur, rfl, Nat.zero_le _, hb, hc, hmax, hcs, rfl⟩⟩, fun j c hj hcc => ?_⟩
  rw [hl] at hj
  have hcc : c < 4 := hcc
  have hj' : j < l.toArray.size := by simp; omega
  have h1 := (h.cell hj' hcc).1
  have e : l.toArray[j]! = l.getD j default := by rw [getElem!_pos l.toArray j hj', List.getD_eq_getElem?_getD, List.getElem?_eq_getElem (by simpa using hj')]; simp
  rw [e, Nat.zero_add] at h1
  unfold World.cell? at h1
  simp only [hb, Option.isSome_none, Bool.false_eq_true, if_false] at h1
  refine ⟨(enc4 (l.getD j default))[c]!, ?_, ?_⟩
  · show (cur.toList.take (m * 4))[j * 4 + c]? = _
    rw [List.getElem?_take, if_pos (by omega), Array.getElem?_toList]; exact h1
  · have e2 : (l.take m).getD j default = l.getD j default := by simp [List.getD_eq_getElem?_getD, List.getElem?_take, show j < m by omega]
    have : El.cell .s4 ((l.take m).getD j default) c = .v (enc4 (l.getD j default))[c]! := by rw [e2]; exact cell4 _ _ hcc
    rw [show El.cell .s4 ((l.take m).getD j default) c = AV.v (enc4 (l.getD j default))[c]! from this]
    exact .v _
theorem comp_ok (L : Cm.LC43.n43 P ρ) {f t : Nat} (hf : ρ.f 43 = f) (aE : ∀ w, (isAgg (ρ.t 23)).run P w = .ok true w) (zE : ∀ w, (Go.sizeOf (ρ.t 23)).run P w = .ok 4 w) (hcan : callable P f = true)
    (heq : EqlAt P (ρ.t 23) (fun x => .agg (enc4 x).toArray) (fun x y => decide (x = y))) (hne : NeqAt P (ρ.t 23) (fun x => .agg (enc4 x).toArray) (fun x y => decide (x = y))) (v23 : ∀ w, (zeroValue (ρ.t 23)).run P w = .ok (.agg (enc4 ⟨0, 0, 0, 0⟩).toArray) w) : FunR P f (RV.mk t .s4 compF).H where
  can := hcan
  runs := fun t' e' l' bx' hH => by
    obtain ⟨l, b, hrow0, hb, rfl⟩ := RV_H hH
    cases hrow0
    refine ⟨t, .s4, b, rfl, fun w A k hA hbox hown hlt => ?_⟩
    unfold compF at hb
    split at hb
    case isFalse => cases hb
    rename_i h47
    cases hb
    have h47 := lt47_iff.1 h47
    obtain ⟨ht, hz, hn, hownb, xs, hrow, hcells⟩ := hbox
    have hz4 : (El.s4).z = 4 := rfl
    rw [hz4] at hcells hrow
    obtain ⟨hxl, hrow⟩ := hrow
    rw [hn] at hxl hrow
    rw [← hf]
    rcases hrow with ⟨hv, hl0⟩ | ⟨b, cap, cur, hv, _, hheap, hcap, hmax, hcs, htk⟩
    · obtain rfl := List.eq_nil_of_length_eq_zero hl0
      rw [hv]
      have e0 : compV [] = [] := by simp [compV, compact, compactUpTo]
      refine (Cm.slices_Compact_none L none 0 w).mono fun e w' ⟨he, hw⟩ => ?_
      subst he hw
      rw [e0]
      exact ⟨{ v := .slice none 0 0, own := none, t := t, z := 4, n := 0 }, rfl, ⟨rfl, rfl, rfl, Nat.le_refl _, fun _ _ _ => rfl, Nat.le_refl _⟩, ⟨rfl, rfl, rfl, rfl, [], ownsW_nil _ _ _ _, fun j c hj => by cases hj⟩, rfl, fun b h => by cases h⟩
    have hkb : k.own = some b := by rw [hownb, hv]; rfl
    have hHo := row_holds (α := S4) (d := l.toArray) id hheap (by simp) htk hxl hcells
    have key := Cm.slices_Compact L 4 (by omega) aE zE enc4 enc4_len enc4_one heq hne ⟨0, 0, 0, 0⟩ v23 b 0 cap l.toArray w hHo (by simp; omega) (by simpa using hcap)
    rw [hv]
    have hs : l.toArray.size = l.length := by simp
    rw [hs] at key
    refine key.mono fun e w' ⟨he, q, hw⟩ => ?_
    subst he
    have hcl := comp_len l
    have hcv : compactUpTo l.toArray l.length = compV l := rfl
    rw [hcv] at hw ⊢
    have hlen : (compV l ++ List.replicate (l.length - (compV l).length) (⟨0, 0, 0, 0⟩ : S4)).length = l.length := by simp; omega
    have htake : (compV l ++ List.replicate (l.length - (compV l).length) (⟨0, 0, 0, 0⟩ : S4)).take (compV l).length = compV l := List.take_left' rfl
    generalize compV l ++ List.replicate (l.length - (compV l).length) (⟨0, 0, 0, 0⟩ : S4) = full at *
    have hold : HoldsK enc4 4 w' b 0 full.toArray := by
      rw [hw]
      exact holdsK_putRowK enc4 4 _ b 0 l.toArray _ (holdsK_ahead enc4 4 w q b 0 l.toArray hHo) (by simp; omega)
    have hw2 : w' = grow (putRow id (Sort.ahead w q) b 0 (flatK enc4 4 full.toArray)) #[] := by rw [grow_empty]; exact hw
    have hheap' : w'.heap[b]? = some (.cells (putCells id 0 (flatK enc4 4 full.toArray) cur) k.t (0, 0)) := by rw [hw2]; exact put_heap hheap
    have below : BelowX ⟨w, owns .one k, A, none⟩ w' := by
      rw [hw2]
      exact put_below fun x hx => by subst hx; exact hkb
    have row := rowW_of (A := A) hheap' (m := (compV l).length) (cap := cap) (by omega) hold (by omega) hmax (by simp only [putCells, Array.size_mapIdx]; exact hcs)
    rw [htake, ht] at row
    exact ⟨_, rfl, below, row, rfl, fun b' h => by cases h; exact hkb⟩
theorem clip_ok {f t : Nat} (hcan : callable P f = true) (h : ∀ (A : Option Addr) (n cap : Nat) (w : World), n ≤ cap → (A = none → cap = 0) → Calls P f #[.slice A n cap] w fun e w' => e = .returned (.slice A n n) ∧ w' = w) : FunR P f (RV.mk t .s4 (fun l => some l)).H where
  can := hcan
  runs := fun t' e' l' bx' hH => by
    obtain ⟨l, b, hrow0, hb, rfl⟩ := RV_H hH
    cases hrow0
    cases hb
    refine ⟨t, .s4, l, rfl, fun w A k hA hbox hown hlt => ?_⟩
    obtain ⟨ht, hz, hn, hownb, xs, hrow, hcells⟩ := hbox
    rcases hrow.2 with ⟨hv, hl0⟩ | ⟨b, cap, cur, hv, _, hheap, hcap, hmax, hcs, htk⟩
    · rw [hv]
      refine (h none 0 0 w (Nat.le_refl _) (fun _ => rfl)).mono fun e w' ⟨he, hw⟩ => ?_
      subst he hw
      have hl : l = [] := List.eq_nil_of_length_eq_zero (by omega)
      subst hl
      exact ⟨{ v := .slice none 0 0, own := none, t := t, z := 4, n := 0 }, rfl, ⟨rfl, rfl, rfl, Nat.le_refl _, fun _ _ _ => rfl, Nat.le_refl _⟩, ⟨rfl, rfl, rfl, rfl, [], ownsW_nil _ _ _ _, fun j c hj => by cases hj⟩, rfl, fun b h => by cases h⟩
    · rw [hv]
      refine (h (some ⟨b, 0, none⟩) k.n cap w hcap (fun e => by cases e)).mono fun e w' ⟨he, hw⟩ => ?_
      subst he hw
      refine ⟨{ v := .slice (some ⟨b, 0, none⟩) k.n k.n, own := some b, t := t, z := 4, n := l.length }, rfl, ⟨rfl, rfl, rfl, Nat.le_refl _, fun _ _ _ => rfl, Nat.le_refl _⟩, ⟨rfl, rfl, rfl, rfl, xs, ?_, hcells⟩, rfl, fun b' h => by cases h; rw [hownb, hv]; rfl⟩
      rw [hn] at hrow htk hcap ⊢
      refine ⟨hrow.1, .inr ⟨b, l.length, cur, rfl, Nat.zero_le _, by rw [← ht]; exact hheap, Nat.le_refl _, Nat.le_trans hcap hmax, Nat.le_trans (Nat.mul_le_mul_right _ hcap) hcs, htk⟩⟩
end
end Go.Proofs.YtalkkenkeilmpaaGreat.Ev
