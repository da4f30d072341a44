/- What the evaluator tells of one operation is what the model does: operations that leave memory as it is. -/
import Derived.Test.YtalkkenkeilmpaaGreatEv
import Derived.Laws.Cells
import Derived.Laws.CopyRow
namespace Go.Proofs.YtalkkenkeilmpaaGreat.Ev
open Go Go.RowKit
set_option linter.unusedVariables false
set_option linter.unusedSimpArgs false

def Okk (P : Program) (N : Nat) (g : Nat → SV) (gB : Nat → Option (Option Box)) (o : Oper) (u : Upd) : Prop :=
  ∀ (w0 : Base) (a : Act) (w : World) (K : Act → World → Prop) (Q : Exit → Act → World → Prop), R w0 N g gB a w → (∀ a' w', R w0 N (upd g o.dst u.v) (updB gB u.bs) a' w' → K a' w') → Oper.wp P o a w K Q

section
variable {P : Program} {N : Nat} {g : Nat → SV} {gB : Nat → Option (Option Box)} {o : Oper} {u : Upd}

/-- an operation that leaves the world as it is. -/
theorem okV (hd : ∀ d, o.dst = some d → d < N) (h : ∀ (w0 : Base) (a : Act) (w : World) (ro : Nat → Prop) (β : Nat → Option Blk), R0 w0 N g gB a w ro β → Frz gB u.bs ∧ ∃ v, (execOp a.eval o).run P w = .ok (.value v) w ∧ RepS w (rof gB ro β u.bs) β v u.v) : Okk P N g gB o u := by
  intro w0 a w K Q hR hK
  obtain ⟨ro, β, hR⟩ := hR
  obtain ⟨hf, v, hv, hr⟩ := h w0 a w ro β hR
  unfold Oper.wp
  rw [hv]
  exact hK _ _ ⟨_, _, (hR.freeze hf).put hd hr⟩

theorem rof_nil {gB : Nat → Option (Option Box)} {ro : Nat → Prop} {β : Nat → Option Blk} : rof gB ro β [] = ro := by
  funext b; simp [rof]

theorem okV0 {v : SV} (hd : ∀ d, o.dst = some d → d < N) (h : ∀ (w0 : Base) (a : Act) (w : World) (ro : Nat → Prop) (β : Nat → Option Blk), R0 w0 N g gB a w ro β → ∃ x, (execOp a.eval o).run P w = .ok (.value x) w ∧ RepS w ro β x v) : Okk P N g gB o ⟨v, []⟩ :=
  okV hd fun w0 a w ro β hR => ⟨.nil _, by rw [rof_nil]; exact h w0 a w ro β hR⟩

theorem run_bind_ok {α γ : Type} {s : Sem α} {f : α → Sem γ} {x : α} {w w' : World} (h : s.run P w = .ok x w') : (s >>= f).run P w = (f x).run P w' := by
  rw [Sem.run_bind, h]; rfl

theorem pr_under {t : TypeId} {d : TypeDesc} (h : P.underlying t = some d) (w : World) : (underlying t).run P w = .ok d w := by
  refine run_pureRun ?_ w
  simp [underlying, program, bind, Sem.bind, pureRun, h, pure]
theorem pr_size {t : TypeId} {n : Nat} (h : szP P t = some n) (w : World) : (sizeOf t).run P w = .ok n w := by
  unfold szP at h
  split at h
  · rename_i i hi
    cases h
    refine run_pureRun ?_ w
    simp [sizeOf, typeInfo, program, bind, Sem.bind, pureRun, hi, pure]
  · cases h
theorem pr_agg {t : TypeId} {b : Bool} (h : agP P t = some b) (w : World) : (isAgg t).run P w = .ok b w := by
  unfold agP at h
  refine run_pureRun ?_ w
  split at h <;> simp_all [isAgg, underlying, program, bind, Sem.bind, pureRun, pure]
theorem pr_zero {t : TypeId} {z : Value} (h : zeroP P t = some z) (w : World) : (zeroValue t).run P w = .ok z w := by
  unfold zeroP at h
  split at h
  · rename_i i hi
    refine run_pureRun ?_ w
    simp [zeroValue, typeInfo, program, bind, Sem.bind, pureRun, hi, h, pure]
  · cases h

theorem addr_add {a : Addr} (hs : a.spot = none) (n : Nat) : a.add n = ⟨a.block, a.off + n, none⟩ := by
  obtain ⟨b, o, s⟩ := a
  simp only at hs; subst hs
  unfold Addr.add
  split <;> simp_all

theorem rep_v_inv {w : World} {ro : Nat → Prop} {x y : Value} (h : Rep w ro x (.v y)) : x = y := by cases h; rfl

theorem allV_some {ys : List AV} {vs : List Value} (h : allV ys = some vs) : ys = vs.map .v := by
  induction ys generalizing vs with
  | nil => simp [allV] at h; subst h; rfl
  | cons y r ih =>
    cases y with
    | v x =>
      simp only [allV] at h
      split at h
      · rename_i l hl; cases h; simp [ih hl]
      · cases h
    | _ => simp [allV] at h

theorem rep_mk {w : World} {ro : Nat → Prop} (xs : Array Value) (ys : List AV) (hn : xs.size = ys.length) (h : ∀ (i : Nat) (x : Value) (y : AV), xs[i]? = some x → ys[i]? = some y → Rep w ro x y) : Rep w ro (.agg xs) (mk ys) := by
  unfold mk
  split
  · rename_i vs hvs
    have e := allV_some hvs
    have hl : xs.size = vs.length := by rw [hn, e]; simp
    have : xs = vs.toArray := by
      apply Array.ext_getElem?
      intro i
      by_cases hi : i < xs.size
      · have hx : xs[i]? = some xs[i] := by simp [hi]
        have hy : ys[i]? = some (.v (vs.getD i undef)) := by
          subst e
          have : i < vs.length := by omega
          simp [List.getElem?_eq_getElem this]
        have := rep_v_inv (h i _ _ hx hy)
        have hv : i < vs.length := by omega
        simp [hi, hv, this]
      · have hv : ¬ i < vs.length := by omega
        simp [hi, hv]
    rw [this]; exact .v _
  · exact .agg xs ys hn h

theorem cells_rep {w : World} {ro : Nat → Prop} {x : Value} {a : AV} (h : Rep w ro x a) : x.cells.size = (cellsA a).length ∧ ∀ (i : Nat) (v : Value) (y : AV), x.cells[i]? = some v → (cellsA a)[i]? = some y → Rep w ro v y := by
  cases h with
  | v x =>
    have one : ∀ x : Value, (#[x] : Array Value).size = [AV.v x].length ∧ ∀ (i : Nat) (v : Value) (y : AV), (#[x] : Array Value)[i]? = some v → [AV.v x][i]? = some y → Rep w ro v y := fun x => by
      refine ⟨rfl, fun i v y h1 h2 => ?_⟩
      cases i with
      | zero => simp at h1 h2; subst h1 h2; exact .v _
      | succ i => simp at h1
    cases x with
    | agg xs =>
      refine ⟨by simp [Value.cells, cellsA], fun i v y h1 h2 => ?_⟩
      simp only [Value.cells, cellsA, List.getElem?_map, Array.getElem?_toList] at h1 h2
      rw [h1] at h2; cases h2; exact .v _
    | _ => exact one _
  | agg xs ys hn h => exact ⟨hn, h⟩
  | sl A cap e l vals hcap hnil hA hh =>
    refine ⟨rfl, fun i v y h1 h2 => ?_⟩
    cases i with
    | zero => simp [Value.cells, cellsA] at h1 h2; subst h1 h2; exact .sl A cap e l vals hcap hnil hA hh
    | succ i => simp [Value.cells] at h1
  | pt ad ys vals hs hr hc hh =>
    refine ⟨rfl, fun i v y h1 h2 => ?_⟩
    cases i with
    | zero => simp [Value.cells, cellsA] at h1 h2; subst h1 h2; exact .pt ad ys vals hs hr hc hh
    | succ i => simp [Value.cells] at h1

theorem rep_aggA {w : World} {ro : Nat → Prop} {x : Value} {a : AV} (h : Rep w ro x a) (ha : aggA a = true) : ∃ cs, x = .agg cs := by
  cases h with
  | v x => cases x <;> simp [aggA] at ha; exact ⟨_, rfl⟩
  | agg xs ys hn h => exact ⟨_, rfl⟩
  | sl => simp [aggA] at ha
  | pt => simp [aggA] at ha

/-- a variable read, of whose cells is told. -/
theorem ldv_ok {ρ : Type} {cx : Cx ρ} (hP : cx.P = P) {t : TypeId} {xs : List AV} {y : AV} (h : ldv cx t xs = some y) {w : World} {ro : Nat → Prop} {a : Addr} (hs : a.spot = none)
    (hc : ∀ (i : Nat) (y : AV), xs[i]? = some y → ∃ v, w.cell? ⟨a.block, a.off + i, none⟩ = some v ∧ Rep w ro v y) : ∃ v, (loadVar t a).run P w = .ok v w ∧ Rep w ro v y := by
  subst hP
  unfold ldv at h
  unfold loadVar
  split at h
  · rename_i hag
    rw [run_bind_ok (pr_agg hag w)]
    split at h
    · rename_i n hn
      split at h
      · rename_i hle
        cases h
        have hle' : n ≤ xs.length := Nat.le_of_ble_eq_true hle
        simp only [if_true]
        rw [run_bind_ok (pr_size hn w)]
        have key : ∀ i, i < n → ∃ v, w.cell? ⟨a.block, a.off + i, none⟩ = some v ∧ ∀ y, xs[i]? = some y → Rep w ro v y := fun i hi => by
          obtain ⟨v, h1, h2⟩ := hc i _ (List.getElem?_eq_getElem (show i < xs.length by omega))
          exact ⟨v, h1, fun y hy => by rw [List.getElem?_eq_getElem (show i < xs.length by omega)] at hy; cases hy; exact h2⟩
        have hcell : ∀ i, i < n → w.cell? (a.add i) = some ((w.cell? ⟨a.block, a.off + i, none⟩).getD undef) := fun i hi => by
          obtain ⟨v, h1, _⟩ := key i hi
          rw [addr_add hs, h1]; rfl
        rw [run_bind_ok (run_loadCells w a n _ hcell)]
        refine ⟨_, rfl, rep_mk _ _ (by simp; omega) fun i x y hx hy => ?_⟩
        simp only [List.getElem?_toArray, List.getElem?_map, List.getElem?_take] at hx hy
        split at hy
        · rename_i hi
          obtain ⟨v, h1, h2⟩ := key i hi
          simp [List.getElem?_range hi, h1] at hx
          subst hx; exact h2 _ hy
        · cases hy
      · cases h
    · cases h
  · rename_i hag
    rw [run_bind_ok (pr_agg hag w)]
    split at h
    · cases h
      obtain ⟨v, h1, h2⟩ := hc 0 _ rfl
      refine ⟨v, ?_, h2⟩
      simp only [Bool.false_eq_true, if_false, run_load]
      rw [show (⟨a.block, a.off + 0, none⟩ : Addr) = a by obtain ⟨b, o, s⟩ := a; simp at hs; simp [hs]] at h1
      rw [h1]
    · cases h
  · cases h

theorem part_ok {ρ : Type} {cx : Cx ρ} (hP : cx.P = P) {t : TypeId} {xs : List AV} {k : Nat} {y : AV} (h : ldv cx t (xs.drop k) = some y) {w : World} {ro : Nat → Prop} {cs : Array Value} (hn : cs.size = xs.length)
    (hc : ∀ (i : Nat) (v : Value) (y : AV), cs[i]? = some v → xs[i]? = some y → Rep w ro v y) : ∃ v, (part t cs k).run P w = .ok v w ∧ Rep w ro v y := by
  subst hP
  unfold ldv at h
  unfold part
  split at h
  · rename_i hag
    rw [run_bind_ok (pr_agg hag w)]
    split at h
    · rename_i n hsz
      split at h
      · rename_i hle
        cases h
        have hle' := Nat.le_of_ble_eq_true hle
        simp only [List.length_drop] at hle'
        simp only [if_true]
        rw [run_bind_ok (pr_size hsz w)]
        by_cases hk : k ≤ xs.length
        · refine ⟨_, rfl, rep_mk _ _ (by simp; omega) fun i x y hx hy => ?_⟩
          simp only [List.getElem?_take, List.getElem?_drop] at hy
          split at hy
          · rename_i hi
            have : cs[k + i]? = some x := by
              rw [Array.getElem?_extract] at hx
              split at hx
              · exact hx
              · cases hx
            exact hc _ _ _ this hy
          · cases hy
        · have hn0 : n = 0 := by omega
          subst hn0
          refine ⟨_, rfl, rep_mk _ _ (by simp; omega) fun i x y hx hy => ?_⟩
          simp at hy
      · cases h
    · cases h
  · rename_i hag
    rw [run_bind_ok (pr_agg hag w)]
    split at h
    · rename_i x r hx
      cases h
      have hk : xs[k]? = some y := by
        have := congrArg (fun l => l[0]?) hx
        simpa using this
      have hk' : k < cs.size := by rw [hn]; exact (List.getElem?_eq_some_iff.1 hk).1
      simp only [Bool.false_eq_true, if_false]
      refine ⟨cs[k], ?_, hc k _ _ (by simp [hk']) hk⟩
      simp [hk']
    · cases h
  · cases h
end
end Go.Proofs.YtalkkenkeilmpaaGreat.Ev
