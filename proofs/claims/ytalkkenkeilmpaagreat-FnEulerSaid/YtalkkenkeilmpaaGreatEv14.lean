/- How a function's arguments, loops and results are told; the function's contract. -/
import Derived.Test.YtalkkenkeilmpaaGreatEv13
namespace Go.Proofs.YtalkkenkeilmpaaGreat.Ev
open Go Go.RowKit
set_option linter.unusedVariables false
set_option linter.unusedSimpArgs false

/-! ### values told as plain data -/
structure AC (α : Type) where
  dec : AV → Option α
  enc : α → AV
  ok : ∀ a x, dec a = some x → ∀ (w : World) (ro : Nat → Prop) (v : Value), Rep w ro v a → Rep w ro v (enc x)

structure S3 where
  x : Int
  y : Int
  z : Int
  deriving DecidableEq, Inhabited

def aI (k : IntKind) : AC Int where
  dec := fun | .v (.int k' n) => (if k = k' then some n else none) | _ => none
  enc n := .v (.int k n)
  ok := fun a x h w ro v hr => by
    split at h
    · split at h
      · rename_i e; cases h; subst e; exact hr
      · cases h
    · cases h
def aB : AC Bool where
  dec := fun | .v (.bool b) => some b | _ => none
  enc b := .v (.bool b)
  ok := fun a x h w ro v hr => by
    split at h
    · cases h; exact hr
    · cases h
def aS4 : AC S4 where
  dec := fun | .v (.agg ⟨[.int .i64 a, .int .i64 b, .int .i64 c, .int .i64 d]⟩) => some ⟨a, b, c, d⟩ | _ => none
  enc p := .v (.agg ⟨[.int .i64 p.a, .int .i64 p.b, .int .i64 p.c, .int .i64 p.d]⟩)
  ok := fun a x h w ro v hr => by
    split at h
    · cases h; exact hr
    · cases h
def aS3 : AC S3 where
  dec := fun | .v (.agg ⟨[.int .i64 a, .int .i64 b, .int .i64 c]⟩) => some ⟨a, b, c⟩ | _ => none
  enc p := .v (.agg ⟨[.int .i64 p.x, .int .i64 p.y, .int .i64 p.z]⟩)
  ok := fun a x h w ro v hr => by
    split at h
    · cases h; exact hr
    · cases h
theorem rep_nil (w : World) (ro : Nat → Prop) (e : El) : Rep w ro (.slice none 0 0) (.sl e []) :=
  Rep.sl none 0 e [] (fun _ _ => undef) (Nat.le_refl _) (fun _ => rfl) (fun j hj => by cases hj) (fun j c hj => by cases hj)
def slOf (e : El) : AV → Option (List e.T)
  | .sl e' l => if h : e' = e then some (h ▸ l) else none
  | .v (.slice none 0 0) => some []
  | _ => none
theorem slOf_ok {e : El} {a : AV} {x : List e.T} (h : slOf e a = some x) {w : World} {ro : Nat → Prop} {v : Value} (hr : Rep w ro v a) : Rep w ro v (.sl e x) := by
  unfold slOf at h
  split at h
  · split at h
    · rename_i hh; cases h; subst hh; exact hr
    · cases h
  · cases h; rw [rep_v_inv hr]; exact rep_nil _ _ _
  · cases h
def aSl (e : El) : AC (List e.T) where
  dec := slOf e
  enc l := .sl e l
  ok := fun a x h w ro v hr => slOf_ok h hr
/-- a struct of a bool, four numbers and a slice of the same. -/
def aTree : AC Tree where
  dec := fun
    | .agg [.v (.bool b), .v (.int .i64 x), .v (.int .i64 y), .v (.int .i64 z), .v (.int .i64 u), k] => (match slOf .tree k with | some l => some (.mk b ⟨x, y, z, u⟩ l) | none => none)
    | .v (.agg ⟨[.bool b, .int .i64 x, .int .i64 y, .int .i64 z, .int .i64 u, .slice none 0 0]⟩) => some (.mk b ⟨x, y, z, u⟩ [])
    | _ => none
  enc t := .agg [.v (.bool t.inn), .v (.int .i64 t.p.a), .v (.int .i64 t.p.b), .v (.int .i64 t.p.c), .v (.int .i64 t.p.d), .sl .tree t.kids]
  ok := fun a x h w ro v hr => by
    split at h
    · rename_i b x y z u k
      split at h
      · rename_i l hl
        cases h
        cases hr with
        | agg xs ys hn hh =>
          refine .agg xs _ hn fun i x' y' h1 h2 => ?_
          match i with
          | 0 => exact hh 0 x' y' h1 h2
          | 1 => exact hh 1 x' y' h1 h2
          | 2 => exact hh 2 x' y' h1 h2
          | 3 => exact hh 3 x' y' h1 h2
          | 4 => exact hh 4 x' y' h1 h2
          | 5 =>
            simp at h2; subst h2
            exact slOf_ok hl (hh 5 x' k h1 rfl)
          | i + 6 => simp at h2
      · cases h
    · cases h
      rw [rep_v_inv hr]
      refine .agg _ _ rfl fun i x' y' h1 h2 => ?_
      match i with
      | 0 => simp at h1 h2; subst h1 h2; exact .v _
      | 1 => simp at h1 h2; subst h1 h2; exact .v _
      | 2 => simp at h1 h2; subst h1 h2; exact .v _
      | 3 => simp at h1 h2; subst h1 h2; exact .v _
      | 4 => simp at h1 h2; subst h1 h2; exact .v _
      | 5 => simp at h1 h2; subst h1 h2; exact rep_nil _ _ _
      | i + 6 => simp at h2
    · cases h
/-- a struct of a bool and a slice of numbers. -/
def aNum : AC Nm where
  dec := fun
    | .agg [.v (.bool b), k] => (match slOf (.i .i64) k with | some l => some ⟨b, l⟩ | none => none)
    | .v (.agg ⟨[.bool b, .slice none 0 0]⟩) => some ⟨b, []⟩
    | _ => none
  enc t := .agg [.v (.bool t.neg), .sl (.i .i64) t.d]
  ok := fun a x h w ro v hr => by
    split at h
    · rename_i b k
      split at h
      · rename_i l hl
        cases h
        cases hr with
        | agg xs ys hn hh =>
          refine .agg xs _ hn fun i x' y' h1 h2 => ?_
          match i with
          | 0 => exact hh 0 x' y' h1 h2
          | 1 =>
            simp at h2; subst h2
            exact slOf_ok hl (hh 1 x' k h1 rfl)
          | i + 2 => simp at h2
      · cases h
    · cases h
      rw [rep_v_inv hr]
      refine .agg _ _ rfl fun i x' y' h1 h2 => ?_
      match i with
      | 0 => simp at h1 h2; subst h1 h2; exact .v _
      | 1 => simp at h1 h2; subst h1 h2; exact rep_nil _ _ _
      | i + 2 => simp at h2
    · cases h
/-- an array, or struct, of two numbers. -/
def aI2 : AC I2 where
  dec := fun | .v (.agg ⟨[.int .i64 a, .int .i64 b]⟩) => some ⟨a, b⟩ | _ => none
  enc p := .v (.agg ⟨[.int .i64 p.x, .int .i64 p.y]⟩)
  ok := fun a x h w ro v hr => by
    split at h
    · cases h; exact hr
    · cases h
/-- a pointer to such a struct. -/
def aTreeP : AC Tree where
  dec := fun
    | .pt [.v (.bool b), .v (.int .i64 x), .v (.int .i64 y), .v (.int .i64 z), .v (.int .i64 u), k] => (match slOf .tree k with | some l => some (.mk b ⟨x, y, z, u⟩ l) | none => none)
    | _ => none
  enc t := .pt [.v (.bool t.inn), .v (.int .i64 t.p.a), .v (.int .i64 t.p.b), .v (.int .i64 t.p.c), .v (.int .i64 t.p.d), .sl .tree t.kids]
  ok := fun a x h w ro v hr => by
    split at h
    · rename_i b x y z u k
      split at h
      · rename_i l hl
        cases h
        cases hr with
        | pt ad ys vals hs hro hc hh =>
          refine .pt ad _ vals hs hro hc fun i y' h2 => ?_
          match i with
          | 0 => exact hh 0 y' h2
          | 1 => exact hh 1 y' h2
          | 2 => exact hh 2 y' h2
          | 3 => exact hh 3 y' h2
          | 4 => exact hh 4 y' h2
          | 5 =>
            simp at h2; subst h2
            exact slOf_ok hl (hh 5 k rfl)
          | i + 6 => simp at h2
      · cases h
    · cases h

/-! ### arguments -/
/-- a function, which is known. -/
def aFn (f : Nat) : AC Unit where
  dec := fun
    | .v (.func (.func f') ⟨[]⟩ ⟨[]⟩) => (match Nat.beq f' f with | true => some () | false => none)
    | _ => none
  enc _ := .v (.func (.func f) #[] #[])
  ok := fun a x h w ro v hr => by
    split at h
    · split at h
      · rename_i e; rw [beq_iff] at e; subst e; exact hr
      · cases h
    · cases h
def ARef (as bs : List AV) : Prop := as.length = bs.length ∧ ∀ (i : Nat) (y y' : AV), as[i]? = some y → bs[i]? = some y' → ∀ (w : World) (ro : Nat → Prop) (v : Value), Rep w ro v y → Rep w ro v y'
structure LC (α : Type) where
  dec : List AV → Option α
  enc : α → List AV
  ok : ∀ as a, dec as = some a → ARef as (enc a)
def lNil : LC Unit where
  dec := fun | [] => some () | _ => none
  enc _ := []
  ok := fun as a h => by
    split at h
    · exact ⟨rfl, fun i y y' h => by simp at h⟩
    · cases h
def lCons {α β : Type} (c : AC α) (r : LC β) : LC (α × β) where
  dec := fun | x :: xs => (match c.dec x with | some a => (match r.dec xs with | some b => some (a, b) | none => none) | none => none) | [] => none
  enc p := c.enc p.1 :: r.enc p.2
  ok := fun as a h => by
    split at h
    · rename_i x xs
      split at h
      · rename_i a' ha
        split at h
        · rename_i b hb
          cases h
          obtain ⟨h1, h2⟩ := r.ok xs b hb
          refine ⟨by simp [h1], fun i y y' hy hy' => ?_⟩
          cases i with
          | zero => simp at hy hy'; subst hy hy'; exact c.ok x a' ha
          | succ i => simp at hy hy'; exact h2 i y y' hy hy'
        · cases h
      · cases h
    · cases h

/-! ### results -/
structure RC (β : Type) where
  dec : Rt → Option β
  enc : β → Rt
  run : ∀ {ρ : Type}, β → (Rt → Option ρ) → Option ρ := fun b K => K (enc b)
  law : ∀ {ρ : Type} (b : β) (K : Rt → Option ρ), run b K = K (enc b) := by intros; rfl
  ok : ∀ r b, dec r = some b → ∀ (w w' : World) (A : Nat → Prop) (v : Value), RetRep w w' A v r → RetRep w w' A v (enc b)
  own : ∀ r b, dec r = some b → ∀ (w w' : World) (A : Nat → Prop) (v : Value), RetRep w w' A v r → ∀ b', ownB v (enc b) b' → ownB v r b'
def rOne {β : Type} (c : AC β) : RC β where
  dec := fun | .one a => c.dec a | _ => none
  enc b := .one (c.enc b)
  ok := fun r b h w w' A v hr => by
    split at h
    · rename_i a; exact c.ok a b h w' _ v hr
    · cases h
  own := fun _ _ _ _ _ _ _ _ _ h => h.elim
def rMany {β : Type} (c : LC β) : RC β where
  dec := fun | .many xs => c.dec xs | _ => none
  enc b := .many (c.enc b)
  ok := fun r b h w w' A v hr => by
    split at h
    · rename_i xs
      obtain ⟨h1, h2⟩ := c.ok xs b h
      obtain ⟨vs, e, hn, hh⟩ := hr
      refine ⟨vs, e, hn.trans h1, fun i u y hu hy => ?_⟩
      have hi : i < xs.length := by rw [h1]; exact (List.getElem?_eq_some_iff.1 hy).1
      exact h2 i _ y (List.getElem?_eq_getElem hi) hy w' _ u (hh i u _ hu (List.getElem?_eq_getElem hi))
    · cases h
  own := fun _ _ _ _ _ _ _ _ _ h => h.elim
/-- exact values. -/
structure VC (β : Type) where
  dec : Value → Option β
  enc : β → Value
  ok : ∀ v x, dec v = some x → v = enc x
def vB : VC Bool where
  dec := fun | .bool b => some b | _ => none
  enc b := .bool b
  ok := fun v x h => by
    split at h
    · cases h; rfl
    · cases h
def vI : VC Int where
  dec := fun | .int .i64 n => some n | _ => none
  enc n := .int .i64 n
  ok := fun v x h => by
    split at h
    · cases h; rfl
    · cases h
def solE (t : Tree) : List Value := [.bool t.inn, .int .i64 t.p.a, .int .i64 t.p.b, .int .i64 t.p.c, .int .i64 t.p.d]
/-- a solid of one's own is handed back. -/
def rSol : RC Tree where
  dec := fun
    | .deep xs none l => (match solOf xs with | some (b, p) => some (.mk b p l) | none => none)
    | .one a => (match aggA a, solA (cellsA a) with | true, some (b, p) => some (.mk b p []) | _, _ => none)
    | _ => none
  enc t := .deep (solE t) none t.kids
  ok := fun r t h w w' A v hr => by
    split at h
    · split at h
      · rename_i hs
        cases h
        rw [solOf_eq hs] at hr; exact hr
      · cases h
    · split at h
      · rename_i ha hs
        cases h
        obtain ⟨kv, e, hk, hn⟩ := rep_sol (show Rep w' (fresh w w' A) v _ from hr) ha hs
        exact ⟨[], kv, e, hk, hn, fun b hb => by cases hb⟩
      · cases h
    · cases h
  own := fun _ _ _ _ _ _ _ _ _ h => h.elim
/-- a solid of one's own and a value. -/
def rSol2 {β : Type} (c : VC β) : RC (Tree × β × Unit) where
  dec := fun
    | .deep xs (some [y]) l => (match solOf xs, c.dec y with | some (b, p), some u => some (.mk b p l, u, ()) | _, _ => none)
    | .many [a, .v y] => (match aggA a, solA (cellsA a), c.dec y with | true, some (b, p), some u => some (.mk b p [], u, ()) | _, _, _ => none)
    | _ => none
  enc t := .deep (solE t.1) (some [c.enc t.2.1]) t.1.kids
  ok := fun r t h w w' A v hr => by
    split at h
    · split at h
      · rename_i hs hc
        cases h
        rw [solOf_eq hs, c.ok _ _ hc] at hr; exact hr
      · cases h
    · split at h
      · rename_i ha hs hc
        cases h
        obtain ⟨vs, rfl, hn, hh⟩ := hr
        have hn : vs.size = 2 := hn
        obtain ⟨kv, e, hk, hnd⟩ := rep_sol (hh 0 vs[0] _ (by simp) rfl) ha hs
        have e1 : vs[1] = c.enc _ := (rep_v_inv (hh 1 vs[1] _ (by simp) rfl)).trans (c.ok _ _ hc)
        refine ⟨[], kv, ?_, hk, hnd, fun b hb => by cases hb⟩
        show Value.tuple vs = .tuple _
        congr 1
        apply Array.ext_getElem?
        intro i
        match i with
        | 0 => simp [hn, e, solE, dpV]
        | 1 => simp [hn, e1]
        | i + 2 => simp [hn]
      · cases h
    · cases h
  own := fun _ _ _ _ _ _ _ _ _ h => h.elim
/-- a row of rows of one's own. -/
def rRows (t te : TypeId) : RC (List (List S4)) where
  dec := fun
    | .rows t' te' l => (if t' = t ∧ te' = te then some l else none)
    | .one (.v (.slice none 0 0)) => some []
    | .own t' .rows [] => (if t' = t then some [] else none)
    | _ => none
  enc l := .rows t te l
  ok := fun r t h w w' A v hr => by
    split at h
    · split at h
      · rename_i e; cases h; obtain ⟨rfl, rfl⟩ := e; exact hr
      · cases h
    · cases h
      have := rep_v_inv (show Rep w' (fresh w w' A) v _ from hr)
      subst this
      exact ⟨[], ⟨[], fun _ => [], ownsW_nil _ _ _ _, rfl, fun j hj => absurd hj (Nat.not_lt_zero j)⟩, List.nodup_nil, fun b hb => by cases hb⟩
    · split at h
      · rename_i e; cases h; subst e
        obtain ⟨xs, hx, _⟩ := hr
        refine ⟨v.ownBlock.toList, ⟨xs, fun _ => [], own_base hx (Nat.zero_le _), by simp, fun j hj => absurd hj (Nat.not_lt_zero j)⟩, by cases v.ownBlock <;> simp, fun b hb => hx.lt b (mem_own.1 hb)⟩
      · cases h
    · cases h
  own := fun _ _ _ _ _ _ _ _ _ h => h.elim
def rOwn (t : TypeId) (e : El) : RC (List e.T) where
  dec := fun
    | .own t' e' l => (if ht : t' = t then (if h : e' = e then some (h ▸ l) else none) else none)
    | .one (.v (.slice none 0 0)) => some []
    | _ => none
  enc l := .own t e l
  ok := fun r b h w w' A v hr => by
    split at h
    · split at h
      · rename_i ht
        split at h
        · rename_i he; cases h; subst ht he; exact hr
        · cases h
      · cases h
    · cases h
      have := rep_v_inv (show Rep w' (fresh w w' A) v _ from hr)
      subst this
      exact ⟨[], ownsW_nil _ _ _ _, fun j c hj => by simp at hj⟩
    · cases h
  own := fun r b h w w' A v hr b' hb => by
    split at h
    · exact hb
    · have := rep_v_inv (show Rep w' (fresh w w' A) v _ from hr)
      subst this; cases hb
    · cases h

/-- a slice that may be the arguments'. -/
def rSh (e : El) : RC (List e.T) where
  dec := fun
    | .own _ e' l => (if h : e' = e then some (h ▸ l) else none)
    | .one a => slOf e a
    | _ => none
  enc l := .one (.sl e l)
  ok := fun r b h w w' A v hr => by
    split at h
    · rename_i t e' l
      split at h
      · rename_i he
        subst he; cases h
        obtain ⟨xs, hown, hc⟩ := hr
        have hlt : ∀ b, fresh w w' A b → fresh w w' A b := fun _ h => h
        show Rep w' (fresh w w' A) v (.sl e' l)
        rcases hown.2 with ⟨hv, hn0⟩ | ⟨gg, cap, cur, hv, hb, hg, hcap, hmax, hsz, htk⟩
        · rw [hv]
          have : l = [] := List.eq_nil_of_length_eq_zero hn0
          subst this
          exact rep_nil _ _ _
        · have hgl : gg < w'.heap.size := by
            rcases Nat.lt_or_ge gg w'.heap.size with h | h
            · exact h
            · rw [Array.getElem?_eq_none h] at hg; cases hg
          rw [hv]
          refine Rep.sl (some ⟨gg, 0, none⟩) cap e' l (fun j c => xs.getD (j * e'.z + c) undef) hcap (fun h => by cases h) (fun j hj => ⟨_, rfl, rfl, .inr ⟨hb, hgl⟩, fun c hc' => ?_⟩) (fun j c hj hc' => ?_)
          · obtain ⟨x, hx', _⟩ := hc j c hj hc'
            have := ownsW.cellAt (hv ▸ hown) (j * e'.z + c) (lt_row hj hc')
            simp only [Nat.zero_add]
            rw [this, hx']; simp [hx']
          · obtain ⟨x, hx', hr'⟩ := hc j c hj hc'
            simp only [List.getD_eq_getElem?_getD, hx', Option.getD_some] at hr' ⊢
            exact hr'.mono (fun b hb => hb.1) (fun _ _ => rfl)
      · cases h
    · exact slOf_ok h hr
    · cases h
  own := fun _ _ _ _ _ _ _ _ _ h => h.elim

/-- a row of one's own, or nil: nil just where there are no elements. -/
def rNil (t : TypeId) (e : El) : RC (List e.T) where
  dec := fun
    | .own t' e' l => (if ht : t' = t then (if h : e' = e then (if l.isEmpty = true then none else some (h ▸ l)) else none) else none)
    | .one (.v (.slice none 0 0)) => some []
    | _ => none
  enc l := if l.isEmpty = true then .one (.v (.slice none 0 0)) else .own t e l
  run l K := if l.isEmpty = true then K (.one (.v (.slice none 0 0))) else K (.own t e l)
  law l K := by split <;> rfl
  ok := fun r b h w w' A v hr => by
    split at h
    · split at h
      · rename_i ht
        split at h
        · rename_i he
          subst ht he
          split at h
          · cases h
          · rename_i hl; cases h; rw [if_neg hl]; exact hr
        · cases h
      · cases h
    · cases h; exact hr
    · cases h
  own := fun r b h w w' A v hr b' hb => by
    split at h
    · split at hb
      · exact hb.elim
      · exact hb
    · cases h; exact hb.elim
    · cases h

/-- a pointer to a variable of the call's own. -/
def rVar {β : Type} (c : LC β) : RC β where
  dec := fun | .var xs => c.dec xs | _ => none
  enc b := .var (c.enc b)
  ok := fun r b h w w' A v hr => by
    split at h
    · rename_i xs
      obtain ⟨h1, h2⟩ := c.ok xs b h
      obtain ⟨bb, cs, t, e1, e2, e3, e4, e5, e6⟩ := hr
      refine ⟨bb, cs, t, e1, e2, e3, e4, e5.trans h1, fun i y hy => ?_⟩
      have hi : i < xs.length := by rw [h1]; exact (List.getElem?_eq_some_iff.1 hy).1
      obtain ⟨x, hx, hrx⟩ := e6 i _ (List.getElem?_eq_getElem hi)
      exact ⟨x, hx, h2 i _ y (List.getElem?_eq_getElem hi) hy _ _ _ hrx⟩
    · cases h
  own := fun r b h w w' A v hr b' hb => by
    split at h
    · exact hb
    · cases h

/-! ### states -/
def SVRef (s s' : SV) : Prop := ∀ (w : World) (ro : Nat → Prop) (β : Nat → Option Blk) (x : Value), RepS w ro β x s → RepS w ro β x s'
def BxRef (x x' : Box) : Prop := ∀ (w : World) (ro : Nat → Prop) (base : Nat) (k : Blk), BoxRep w ro base k x → BoxRep w ro base k x'
def vqk : Box → Option Nat
  | .vq kid _ => some kid
  | _ => none
def BRef : Option (Option Box) → Option (Option Box) → Prop
  | none, none => True
  | some none, some none => True
  | some (some x), some (some x') => BxRef x x' ∧ x'.kind = x.kind ∧ vqk x' = vqk x
  | _, _ => False
theorem R.ref {N : Nat} {w0 : Base} {a : Act} {w : World} {g g' : Nat → SV} {gB gB' : Nat → Option (Option Box)} (h : R w0 N g gB a w) (h1 : ∀ s, SVRef (g s) (g' s)) (h2 : ∀ id, BRef (gB id) (gB' id)) : R w0 N g' gB' a w := by
  obtain ⟨ro, β, h⟩ := h
  have live : ∀ id x', gB' id = some (some x') → ∃ x, gB id = some (some x) ∧ BxRef x x' ∧ x'.kind = x.kind ∧ vqk x' = vqk x := fun id x' hx => by
    have := h2 id
    rw [hx] at this
    cases hg : gB id with
    | none => rw [hg] at this; exact this.elim
    | some y => cases y with
      | none => rw [hg] at this; exact this.elim
      | some x => rw [hg] at this; exact ⟨x, rfl, this⟩
  refine ⟨ro, β, ⟨h.below, fun s => h1 s _ _ _ _ (h.slots s), fun id x' hx => ?_, fun id id' x x' b k k' e1 e2 e3 e4 o1 o2 => ?_, fun id hid => ?_, h.roUp, h.roLt, h.βLt, h.defers, h.size, fun k hk => ⟨(h.fix k hk).1, fun x hx => (live _ x hx).elim fun y hy => (h.fix k hk).2 y hy.1⟩, fun id kid xs hx => ?_⟩⟩
  · obtain ⟨x, hx, hr, hq, _⟩ := live id x' hx
    obtain ⟨k, hk, hb, ho⟩ := h.box id x hx
    exact ⟨k, hk, hr _ _ _ _ hb, fun b hb => ho b (hq ▸ hb)⟩
  · obtain ⟨x1, g1, _, q1, _⟩ := live id x e1
    obtain ⟨x2, g2, _, q2, _⟩ := live id' x' e2
    exact h.inj id id' x1 x2 b k k' g1 g2 e3 e4 (q1 ▸ o1) (q2 ▸ o2)
  · have := h2 id
    rw [hid] at this
    cases hg : gB id with
    | none => exact h.free id hg
    | some y => rw [hg] at this; cases y <;> exact this.elim
  · obtain ⟨x, hx', _, _, hq⟩ := live id _ hx
    cases x with
    | vq kid' xs' => cases hq; exact h.lnk id kid xs' hx'
    | _ => cases hq

/-- a temporary told as plain data. -/
structure TC (α : Type) where
  dec : SV → Option α
  enc : α → SV
  ok : ∀ s a, dec s = some a → SVRef s (enc a)
def tP {α : Type} (c : AC α) : TC α where
  dec := fun | .p a => c.dec a | _ => none
  enc a := .p (c.enc a)
  ok := fun s a h => by
    split at h
    · rename_i x; exact fun w ro β v hr => c.ok x a h w ro v hr
    · cases h
def tRef (id off : Nat) : TC Unit where
  dec := fun | .ref i o => (match Nat.beq i id, Nat.beq o off with | true, true => some () | _, _ => none) | _ => none
  enc _ := .ref id off
  ok := fun s a h => by
    split at h
    · split at h
      · rename_i h1 h2
        have e1 := beq_iff.1 h1
        have e2 := beq_iff.1 h2
        subst e1 e2; exact fun w ro β v hr => hr
      · cases h
    · cases h
def tOsl (id : Nat) : TC Unit where
  dec := fun | .osl i => (match Nat.beq i id with | true => some () | _ => none) | _ => none
  enc _ := .osl id
  ok := fun s a h => by
    split at h
    · split at h
      · rename_i h1
        have e1 := beq_iff.1 h1
        subst e1; exact fun w ro β v hr => hr
      · cases h
    · cases h
def tNil : TC Unit where
  dec := fun | .p (.v (.slice none 0 0)) => some () | _ => none
  enc _ := .p (.v (.slice none 0 0))
  ok := fun s a h => by
    split at h
    · exact fun w ro β v hr => hr
    · cases h
def tDead : TC Unit where
  dec := fun _ => some ()
  enc _ := .dead
  ok := fun s a h w ro β v hr => trivial
/-- a pointer to a struct that came in. -/
def tTreeP : TC Tree where
  dec := fun
    | .pt [.v (.bool b), .v (.int .i64 x), .v (.int .i64 y), .v (.int .i64 z), .v (.int .i64 u), .sl .tree l] => some (.mk b ⟨x, y, z, u⟩ l)
    | _ => none
  enc t := .pt [.v (.bool t.inn), .v (.int .i64 t.p.a), .v (.int .i64 t.p.b), .v (.int .i64 t.p.c), .v (.int .i64 t.p.d), .sl .tree t.kids]
  ok := fun s a h => by
    split at h
    · cases h; exact fun w ro β v hr => hr
    · cases h

structure EC (α : Type) where
  dec : Env → Option α
  enc : α → Env
  ok : ∀ e a, dec e = some a → ∀ s, SVRef (get e s) (get (enc a) s)
def eNil : EC Unit where
  dec := fun _ => some ()
  enc _ := []
  ok := fun e a h s w ro β v hr => trivial
def eCons {α β : Type} (n : Nat) (c : TC α) (r : EC β) : EC (α × β) where
  dec := fun | (k, v) :: e => (match Nat.beq k n with
      | true => (match c.dec v with | some a => (match r.dec e with | some b => some (a, b) | none => none) | none => none)
      | false => none) | [] => none
  enc p := (n, c.enc p.1) :: r.enc p.2
  ok := fun e a h s => by
    split at h
    · rename_i k v e
      split at h
      · rename_i hk
        have ek := beq_iff.1 hk
        subst ek
        split at h
        · rename_i a' ha
          split at h
          · rename_i b hb
            cases h
            simp only [get]
            cases Nat.beq k s with
            | true => exact c.ok v a' ha
            | false => exact r.ok e b hb s
          · cases h
        · cases h
      · cases h
    · cases h

/-- a block told as plain data. -/
structure XB (α : Type) where
  dec : Box → Option α
  enc : α → Box
  ok : ∀ x a, dec x = some a → BxRef x (enc a)
  kd : BK
  kdec : ∀ x a, dec x = some a → x.kind = kd
  kenc : ∀ a, (enc a).kind = kd
  kq : ∀ x a, dec x = some a → vqk (enc a) = vqk x
  lk : Bool
  nq : lk = false → ∀ a, vqk (enc a) = none
def xVr {α : Type} (c : LC α) : XB α where
  dec := fun | .vr xs => c.dec xs | _ => none
  enc a := .vr (c.enc a)
  ok := fun x a h => by
    split at h
    · rename_i xs
      intro w ro base k ⟨b, cc, t, h1, h2, h3, h4⟩
      obtain ⟨g1, g2⟩ := c.ok xs a h
      refine ⟨b, cc, t, h1, h2, h3.trans g1, fun i y hy => ?_⟩
      have hi : i < xs.length := by rw [g1]; exact (List.getElem?_eq_some_iff.1 hy).1
      obtain ⟨z, hz, hr⟩ := h4 i _ (List.getElem?_eq_getElem hi)
      exact ⟨z, hz, g2 i _ y (List.getElem?_eq_getElem hi) hy w ro z hr⟩
    · cases h
  kd := .one
  kdec := fun x a h => by
    split at h
    · rfl
    · cases h
  kenc := fun _ => rfl
  kq := fun x a h => by
    split at h
    · rfl
    · cases h
  lk := false
  nq := fun _ _ => rfl
/-- a variable that holds a solid of one's own. -/
def xVq (id : Nat) : XB (Bool × S4) where
  dec := fun | .vq kid xs => (match Nat.beq kid id with | true => solOf xs | false => none) | _ => none
  enc p := .vq id [.bool p.1, .int .i64 p.2.a, .int .i64 p.2.b, .int .i64 p.2.c, .int .i64 p.2.d]
  ok := fun x a h => by
    split at h
    · split at h
      · intro w ro base k hr
        obtain ⟨b, p⟩ := a
        rw [solOf_eq h] at hr
        exact hr
      · cases h
    · cases h
  kd := .one
  kdec := fun x a h => by
    split at h
    · rfl
    · cases h
  kenc := fun _ => rfl
  kq := fun x a h => by
    split at h
    · split at h
      · rename_i hb; rw [beq_iff.1 hb]; rfl
      · cases h
    · cases h
  lk := true
  nq := fun h => by cases h
/-- a solid all of whose rows are one's own. -/
def xTr : XB Tree where
  dec := fun | .tr t => some t | _ => none
  enc t := .tr t
  ok := fun x a h => by
    split at h
    · cases h; exact fun w ro base k hr => hr
    · cases h
  kd := .deep
  kdec := fun x a h => by
    split at h
    · rfl
    · cases h
  kenc := fun _ => rfl
  kq := fun x a h => by
    split at h
    · rfl
    · cases h
  lk := false
  nq := fun _ _ => rfl
def xKids : XB (List Tree) where
  dec := fun | .kids t => some t | _ => none
  enc t := .kids t
  ok := fun x a h => by
    split at h
    · cases h; exact fun w ro base k hr => hr
    · cases h
  kd := .deep
  kdec := fun x a h => by
    split at h
    · rfl
    · cases h
  kenc := fun _ => rfl
  kq := fun x a h => by
    split at h
    · rfl
    · cases h
  lk := false
  nq := fun _ _ => rfl
def xRs (t te : TypeId) : XB (List (List S4)) where
  dec := fun | .rs t' te' l => (if t' = t ∧ te' = te then some l else none) | _ => none
  enc l := .rs t te l
  ok := fun x a h => by
    split at h
    · split at h
      · rename_i e; cases h; obtain ⟨rfl, rfl⟩ := e; exact fun w ro base k hr => hr
      · cases h
    · cases h
  kd := .deep
  kdec := fun x a h => by
    split at h
    · rfl
    · cases h
  kenc := fun _ => rfl
  kq := fun x a h => by
    split at h
    · rfl
    · cases h
  lk := false
  nq := fun _ _ => rfl
def xRow (t : TypeId) (e : El) : XB (List e.T) where
  dec := fun | .row t' e' l => (if ht : t' = t then (if h : e' = e then some (h ▸ l) else none) else none) | _ => none
  enc l := .row t e l
  ok := fun x a h => by
    split at h
    · split at h
      · rename_i ht
        split at h
        · rename_i he; cases h; subst ht he; exact fun w ro base k hr => hr
        · cases h
      · cases h
    · cases h
  kd := .one
  kdec := fun x a h => by
    split at h
    · rfl
    · cases h
  kenc := fun _ => rfl
  kq := fun x a h => by
    split at h
    · rfl
    · cases h
  lk := false
  nq := fun _ _ => rfl
/-- four cells as a struct; three; one. -/
def cS4 : LC S4 where
  dec := fun | [.v (.int .i64 a), .v (.int .i64 b), .v (.int .i64 c), .v (.int .i64 d)] => some ⟨a, b, c, d⟩ | _ => none
  enc p := [.v (.int .i64 p.a), .v (.int .i64 p.b), .v (.int .i64 p.c), .v (.int .i64 p.d)]
  ok := fun as a h => by
    split at h
    · cases h; exact ⟨rfl, fun i y y' h1 h2 => by rw [h1] at h2; cases h2; exact fun w ro v hr => hr⟩
    · cases h
def cS3 : LC S3 where
  dec := fun | [.v (.int .i64 a), .v (.int .i64 b), .v (.int .i64 c)] => some ⟨a, b, c⟩ | _ => none
  enc p := [.v (.int .i64 p.x), .v (.int .i64 p.y), .v (.int .i64 p.z)]
  ok := fun as a h => by
    split at h
    · cases h; exact ⟨rfl, fun i y y' h1 h2 => by rw [h1] at h2; cases h2; exact fun w ro v hr => hr⟩
    · cases h
def cOne {α : Type} (c : AC α) : LC α where
  dec := fun | [x] => c.dec x | _ => none
  enc a := [c.enc a]
  ok := fun as a h => by
    split at h
    · rename_i x
      refine ⟨rfl, fun i y y' h1 h2 => ?_⟩
      cases i with
      | zero => simp at h1 h2; subst h1 h2; exact c.ok x a h
      | succ i => simp at h1
    · cases h
def cTree : LC Tree where
  dec := fun
    | [.v (.bool b), .v (.int .i64 x), .v (.int .i64 y), .v (.int .i64 z), .v (.int .i64 u), k] => (match slOf .tree k with | some l => some (.mk b ⟨x, y, z, u⟩ l) | none => none)
    | _ => none
  enc t := [.v (.bool t.inn), .v (.int .i64 t.p.a), .v (.int .i64 t.p.b), .v (.int .i64 t.p.c), .v (.int .i64 t.p.d), .sl .tree t.kids]
  ok := fun as a h => by
    split at h
    · rename_i b x y z u k
      split at h
      · rename_i l hl
        cases h
        refine ⟨rfl, fun i y' y2 h1 h2 => ?_⟩
        match i with
        | 0 => simp at h1 h2; subst h1 h2; exact fun w ro v hr => hr
        | 1 => simp at h1 h2; subst h1 h2; exact fun w ro v hr => hr
        | 2 => simp at h1 h2; subst h1 h2; exact fun w ro v hr => hr
        | 3 => simp at h1 h2; subst h1 h2; exact fun w ro v hr => hr
        | 4 => simp at h1 h2; subst h1 h2; exact fun w ro v hr => hr
        | 5 => simp at h1 h2; subst h1 h2; exact fun w ro v hr => slOf_ok hl hr
        | i + 6 => simp at h2
      · cases h
    · cases h

def cNum : LC Nm where
  dec := fun
    | [.v (.bool b), k] => (match slOf (.i .i64) k with | some l => some ⟨b, l⟩ | none => none)
    | _ => none
  enc t := [.v (.bool t.neg), .sl (.i .i64) t.d]
  ok := fun as a h => by
    split at h
    · rename_i b k
      split at h
      · rename_i l hl
        cases h
        refine ⟨rfl, fun i y' y2 h1 h2 => ?_⟩
        match i with
        | 0 => simp at h1 h2; subst h1 h2; exact fun w ro v hr => hr
        | 1 => simp at h1 h2; subst h1 h2; exact fun w ro v hr => slOf_ok hl hr
        | i + 2 => simp at h2
      · cases h
    · cases h
def cI2 : LC I2 where
  dec := fun | [.v (.int .i64 a), .v (.int .i64 b)] => some ⟨a, b⟩ | _ => none
  enc p := [.v (.int .i64 p.x), .v (.int .i64 p.y)]
  ok := fun as a h => by
    split at h
    · cases h; exact ⟨rfl, fun i y y' h1 h2 => by rw [h1] at h2; cases h2; exact fun w ro v hr => hr⟩
    · cases h

structure BC (α : Type) where
  dec : Bxs → Option α
  enc : α → Bxs
  ok : ∀ b a, dec b = some a → ∀ id, BRef (getB b id) (getB (enc a) id)
def bNil : BC Unit where
  dec := fun | [] => some () | _ => none
  enc _ := []
  ok := fun b a h id => by
    split at h
    · exact trivial
    · cases h
def bCons {α β : Type} (n : Nat) (c : XB α) (r : BC β) : BC (α × β) where
  dec := fun | (k, some v) :: b => (match Nat.beq k n with
      | true => (match c.dec v with | some a => (match r.dec b with | some b => some (a, b) | none => none) | none => none)
      | false => none) | _ => none
  enc p := (n, some (c.enc p.1)) :: r.enc p.2
  ok := fun b a h id => by
    split at h
    · rename_i k v b
      split at h
      · rename_i hk
        have ek := beq_iff.1 hk
        subst ek
        split at h
        · rename_i a' ha
          split at h
          · rename_i b' hb
            cases h
            simp only [getB]
            cases Nat.beq k id with
            | true => exact ⟨c.ok v a' ha, (c.kenc _).trans (c.kdec v a' ha).symm, c.kq v a' ha⟩
            | false => exact r.ok b b' hb id
          · cases h
        · cases h
      · cases h
    · cases h

/-- a state told as plain data: what is kept of it. -/
structure SC (α : Type) where
  dec : S2 → Option α
  enc : α → S2
  ok : ∀ st a, dec st = some a → ∀ (N : Nat) (w0 : Base) (act : Act) (w : World), R w0 N (get st.1) (getB st.2) act w → R w0 N (get (enc a).1) (getB (enc a).2) act w
def sC {α β : Type} (H : Hd) (ec : EC α) (bc : BC β) : SC (α × β) where
  dec st := match keepOk (prep H st) H.lv H.lb with
    | true => (match ec.dec (keepS (prep H st) H.lv H.lb).1 with
      | some a => (match bc.dec (keepS (prep H st) H.lv H.lb).2 with | some b => some (a, b) | none => none)
      | none => none)
    | false => none
  enc p := (ec.enc p.1, bc.enc p.2)
  ok := fun st a h N w0 act w hR => by
    split at h
    · rename_i hk
      split at h
      · rename_i a' ha
        split at h
        · rename_i b' hb
          cases h
          exact ((R.prep H hR).keep hk).ref (ec.ok _ _ ha) (bc.ok _ _ hb)
        · cases h
      · cases h
    · cases h

/-- how code is left. -/
structure XC (β : Type) where
  dec : Exit → S2 → Option β
  enc : β → Exit × S2
  run : {ρ : Type} → β → (Exit → S2 → Option ρ) → Option ρ
  law : ∀ {ρ : Type} (b : β) (K : Exit → S2 → Option ρ), run b K = K (enc b).1 (enc b).2
  ok : ∀ e st b, dec e st = some b → (enc b).1 = e ∧ ∀ (N : Nat) (w0 : Base) (act : Act) (w : World), R w0 N (get st.1) (getB st.2) act w → R w0 N (get (enc b).2.1) (getB (enc b).2.2) act w
def xRet {α : Type} (s : SC α) : XC α where
  dec := fun | .ret, st => s.dec st | _, _ => none
  enc a := (.ret, s.enc a)
  run a K := K .ret (s.enc a)
  law _ _ := rfl
  ok := fun e st b h => by
    split at h
    · exact ⟨rfl, s.ok _ _ h⟩
    · cases h
def xExit {α : Type} (id : Nat) (s : SC α) : XC α where
  dec := fun | .exit j, st => (match Nat.beq j id with | true => s.dec st | false => none) | _, _ => none
  enc a := (.exit id, s.enc a)
  run a K := K (.exit id) (s.enc a)
  law _ _ := rfl
  ok := fun e st b h => by
    split at h
    · split at h
      · rename_i hj
        have := beq_iff.1 hj
        subst this; exact ⟨rfl, s.ok _ _ h⟩
      · cases h
    · cases h
def xOr {α β : Type} (x : XC α) (y : XC β) : XC (α ⊕ β) where
  dec e st := match e with
    | .ret => (match x.dec .ret st with | some a => some (.inl a) | none => none)
    | e => (match y.dec e st with | some b => some (.inr b) | none => none)
  enc := fun | .inl a => x.enc a | .inr b => y.enc b
  run p K := match p with | .inl a => x.run a K | .inr b => y.run b K
  law p K := by cases p with | inl a => exact x.law a K | inr b => exact y.law b K
  ok := fun e st b h => by
    split at h
    · split at h
      · rename_i a ha; cases h; exact x.ok _ _ _ ha
      · cases h
    · split at h
      · rename_i a ha; cases h; exact y.ok _ _ _ ha
      · cases h

/-! ### functions and loops as entries of a context -/
structure FE where
  α : Type
  β : Type
  args : LC α
  ret : RC β
  f : α → Option β
def FE.G (F : FE) (as : List AV) : Option Rt := match F.args.dec as with
  | some a => (match F.f a with | some b => some (F.ret.enc b) | none => none)
  | none => none
/-- a function that writes into its first argument. -/
structure FS where
  σ : Type
  α : Type
  β : Type
  sk : SK
  st : XB σ
  args : LC α
  ret : RC β
  f : σ → α → Option (β × σ)
def FS.H (F : FS) (bx : Box) (as : List AV) : Option (Rt × Box) := match F.st.dec bx, F.args.dec as with
  | some s, some a => (match F.f s a with | some b => some (F.ret.enc b.1, F.st.enc b.2) | none => none)
  | _, _ => none
def FS.fin (F : FS) (bx : Box) (rt : Rt) : Option (F.β × F.σ) := match F.ret.dec rt, F.st.dec bx with
  | some b, some s => some (b, s)
  | _, _ => none
/-- a function that writes into its first argument, its promise made by hand. -/
structure GV where
  δ : Type
  β : Type
  sk : SK
  go : Box → List AV → Option δ
  f : δ → Option β
  rt : δ → β → Rt
  bx : δ → β → Box
def GV.H (F : GV) (bx : Box) (as : List AV) : Option (Rt × Box) := match F.go bx as with
  | some d => (match F.f d with | some b => some (F.rt d b, F.bx d b) | none => none)
  | none => none
/-- a function that takes a row and hands it back. -/
structure RV where
  t : TypeId
  e : El
  f : List e.T → Option (List e.T)
def RV.H (F : RV) (bx : Box) : Option Box := match (xRow F.t F.e).dec bx with
  | some l => (match F.f l with | some l' => some (.row F.t F.e l') | none => none)
  | none => none
inductive CE where
  | fn (F : FE)
  | st (F : FS)
  | gv (F : GV)
  | rr (F : RV)
  | nd
structure LE where
  H : Hd
  α : Type
  β : Type
  st : SC α
  xt : XC β
  f : α → Option β
def findF : List (Nat × CE) → Nat → Option FE
  | [], _ => none
  | (k, .fn F) :: r, n => (match Nat.beq k n with | true => some F | false => findF r n)
  | (_, .st _) :: r, n => findF r n
  | (_, .gv _) :: r, n => findF r n
  | (_, .rr _) :: r, n => findF r n
  | (_, .nd) :: r, n => findF r n
def findS : List (Nat × CE) → Nat → Option FS
  | [], _ => none
  | (k, .st F) :: r, n => (match Nat.beq k n with | true => some F | false => findS r n)
  | (_, .fn _) :: r, n => findS r n
  | (_, .gv _) :: r, n => findS r n
  | (_, .rr _) :: r, n => findS r n
  | (_, .nd) :: r, n => findS r n
def findV : List (Nat × CE) → Nat → Option GV
  | [], _ => none
  | (k, .gv F) :: r, n => (match Nat.beq k n with | true => some F | false => findV r n)
  | (_, .st _) :: r, n => findV r n
  | (_, .fn _) :: r, n => findV r n
  | (_, .rr _) :: r, n => findV r n
  | (_, .nd) :: r, n => findV r n
def findR : List (Nat × CE) → Nat → Option RV
  | [], _ => none
  | (k, .rr F) :: r, n => (match Nat.beq k n with | true => some F | false => findR r n)
  | (_, .st _) :: r, n => findR r n
  | (_, .fn _) :: r, n => findR r n
  | (_, .gv _) :: r, n => findR r n
  | (_, .nd) :: r, n => findR r n
def findN : List (Nat × CE) → Nat → Bool
  | [], _ => false
  | (k, .nd) :: r, n => (match Nat.beq k n with | true => true | false => findN r n)
  | (_, .fn _) :: r, n => findN r n
  | (_, .st _) :: r, n => findN r n
  | (_, .gv _) :: r, n => findN r n
  | (_, .rr _) :: r, n => findN r n
def findL : List (Nat × LE) → Nat → Option LE
  | [], _ => none
  | (k, F) :: r, n => match Nat.beq k n with | true => some F | false => findL r n
def mkCx {ρ : Type} (P : Program) (cs : List (Nat × CE)) (ls : List (Nat × LE)) : Cx ρ where
  P := P
  call f as K := match findF cs f with
    | some F => (match F.args.dec as with | some a => (F.f a).bind fun b => F.ret.run b K | none => none)
    | none => none
  loop n st K := match findL ls n with
    | some l => (match l.st.dec st with | some a => (l.f a).bind fun b => l.xt.run b K | none => none)
    | none => none
  stf f := match findS cs f with | some F => some F.sk | none => match findV cs f with | some F => some F.sk | none => none
  callS f bx as K := match findS cs f with
    | some F => (match F.st.dec bx with
      | some s => (match F.args.dec as with | some a => (F.f s a).bind fun b => F.ret.run b.1 (K (F.st.enc b.2)) | none => none)
      | none => none)
    | none => match findV cs f with
      | some F => (match F.go bx as with
        | some d => (F.f d).bind fun b => K (F.bx d b) (F.rt d b)
        | none => none)
      | none => none
  rrf f := match findR cs f with | some _ => true | none => false
  callR f bx K := match findR cs f with
    | some F => (match (xRow F.t F.e).dec bx with
      | some l => (F.f l).bind fun l' => K (.row F.t F.e l')
      | none => none)
    | none => none
  ndf f := findN cs f
def AllFun (P : Program) : List (Nat × CE) → Prop
  | [] => True
  | (n, .fn F) :: r => Fun P n F.G ∧ AllFun P r
  | (n, .st F) :: r => FunS P n F.sk F.H ∧ AllFun P r
  | (n, .gv F) :: r => FunS P n F.sk F.H ∧ AllFun P r
  | (n, .rr F) :: r => FunR P n F.H ∧ AllFun P r
  | (n, .nd) :: r => FunN P n ∧ AllFun P r
theorem findF_fun {P : Program} : ∀ {cs : List (Nat × CE)} (h : AllFun P cs) {n : Nat} {F : FE} (hf : findF cs n = some F), Fun P n F.G
  | [], _, _, _, hf => by cases hf
  | (k, .fn F') :: cs, h, n, F, hf => by
    simp only [findF] at hf
    cases hb : Nat.beq k n with
    | true => rw [hb] at hf; rw [beq_iff] at hb; subst hb; cases hf; exact h.1
    | false => rw [hb] at hf; exact findF_fun h.2 hf
  | (k, .st F') :: cs, h, n, F, hf => findF_fun (cs := cs) h.2 hf
  | (k, .gv F') :: cs, h, n, F, hf => findF_fun (cs := cs) h.2 hf
  | (k, .rr F') :: cs, h, n, F, hf => findF_fun (cs := cs) h.2 hf
  | (k, .nd) :: cs, h, n, F, hf => findF_fun (cs := cs) h.2 hf
theorem findS_fun {P : Program} : ∀ {cs : List (Nat × CE)} (h : AllFun P cs) {n : Nat} {F : FS} (hf : findS cs n = some F), FunS P n F.sk F.H
  | [], _, _, _, hf => by cases hf
  | (k, .st F') :: cs, h, n, F, hf => by
    simp only [findS] at hf
    cases hb : Nat.beq k n with
    | true => rw [hb] at hf; rw [beq_iff] at hb; subst hb; cases hf; exact h.1
    | false => rw [hb] at hf; exact findS_fun h.2 hf
  | (k, .fn F') :: cs, h, n, F, hf => findS_fun (cs := cs) h.2 hf
  | (k, .gv F') :: cs, h, n, F, hf => findS_fun (cs := cs) h.2 hf
  | (k, .rr F') :: cs, h, n, F, hf => findS_fun (cs := cs) h.2 hf
  | (k, .nd) :: cs, h, n, F, hf => findS_fun (cs := cs) h.2 hf
theorem findV_fun {P : Program} : ∀ {cs : List (Nat × CE)} (h : AllFun P cs) {n : Nat} {F : GV} (hf : findV cs n = some F), FunS P n F.sk F.H
  | [], _, _, _, hf => by cases hf
  | (k, .gv F') :: cs, h, n, F, hf => by
    simp only [findV] at hf
    cases hb : Nat.beq k n with
    | true => rw [hb] at hf; rw [beq_iff] at hb; subst hb; cases hf; exact h.1
    | false => rw [hb] at hf; exact findV_fun h.2 hf
  | (k, .fn F') :: cs, h, n, F, hf => findV_fun (cs := cs) h.2 hf
  | (k, .st F') :: cs, h, n, F, hf => findV_fun (cs := cs) h.2 hf
  | (k, .rr F') :: cs, h, n, F, hf => findV_fun (cs := cs) h.2 hf
  | (k, .nd) :: cs, h, n, F, hf => findV_fun (cs := cs) h.2 hf
theorem findR_fun {P : Program} : ∀ {cs : List (Nat × CE)} (h : AllFun P cs) {n : Nat} {F : RV} (hf : findR cs n = some F), FunR P n F.H
  | [], _, _, _, hf => by cases hf
  | (k, .rr F') :: cs, h, n, F, hf => by
    simp only [findR] at hf
    cases hb : Nat.beq k n with
    | true => rw [hb] at hf; rw [beq_iff] at hb; subst hb; cases hf; exact h.1
    | false => rw [hb] at hf; exact findR_fun h.2 hf
  | (k, .fn F') :: cs, h, n, F, hf => findR_fun (cs := cs) h.2 hf
  | (k, .st F') :: cs, h, n, F, hf => findR_fun (cs := cs) h.2 hf
  | (k, .gv F') :: cs, h, n, F, hf => findR_fun (cs := cs) h.2 hf
  | (k, .nd) :: cs, h, n, F, hf => findR_fun (cs := cs) h.2 hf
theorem findN_fun {P : Program} : ∀ {cs : List (Nat × CE)} (h : AllFun P cs) {n : Nat} (hf : findN cs n = true), FunN P n
  | [], _, _, hf => by cases hf
  | (k, .nd) :: cs, h, n, hf => by
    simp only [findN] at hf
    cases hb : Nat.beq k n with
    | true => rw [beq_iff] at hb; subst hb; exact h.1
    | false => rw [hb] at hf; exact findN_fun h.2 hf
  | (k, .fn F') :: cs, h, n, hf => findN_fun (cs := cs) h.2 hf
  | (k, .st F') :: cs, h, n, hf => findN_fun (cs := cs) h.2 hf
  | (k, .gv F') :: cs, h, n, hf => findN_fun (cs := cs) h.2 hf
  | (k, .rr F') :: cs, h, n, hf => findN_fun (cs := cs) h.2 hf
theorem callsOk {ρ : Type} {P : Program} {cs : List (Nat × CE)} {ls : List (Nat × LE)} (h : AllFun P cs) : CallsOk P (mkCx P cs ls : Cx ρ) where
  fn := by
    intro f as K r hr
    simp only [mkCx] at hr
    split at hr
    · rename_i F hF
      split at hr
      · rename_i a ha
        cases hb : F.f a with
        | none => rw [hb] at hr; cases hr
        | some b =>
          rw [hb] at hr
          exact ⟨F.G, F.ret.enc b, findF_fun h hF, by simp only [FE.G, ha, hb], (F.ret.law b K).symm.trans hr⟩
      · cases hr
    · cases hr
  st := by
    intro f k bx as K r hk hr
    simp only [mkCx] at hr hk
    split at hr
    · rename_i F hF
      rw [hF] at hk; cases hk
      split at hr
      · rename_i s hs
        split at hr
        · rename_i a ha
          cases hb : F.f s a with
          | none => rw [hb] at hr; cases hr
          | some b =>
            rw [hb] at hr
            exact ⟨F.H, _, _, findS_fun h hF, by simp only [FS.H, hs, ha, hb], (F.ret.law _ _).symm.trans hr⟩
        · cases hr
      · cases hr
    · rename_i hN
      rw [hN] at hk
      simp only at hk
      split at hr
      · rename_i F hF
        rw [hF] at hk; cases hk
        split at hr
        · rename_i d hd
          cases hb : F.f d with
          | none => rw [hb] at hr; cases hr
          | some b =>
            rw [hb] at hr
            exact ⟨F.H, _, _, findV_fun h hF, by simp only [GV.H, hd, hb], hr⟩
        · cases hr
      · cases hr
  rr := by
    intro f bx K r hk hr
    simp only [mkCx] at hr
    split at hr
    · rename_i F hF
      split at hr
      · rename_i l hl
        cases hb : F.f l with
        | none => rw [hb] at hr; cases hr
        | some l' =>
          rw [hb] at hr
          exact ⟨F.H, _, findR_fun h hF, by simp only [RV.H, hl, hb], hr⟩
      · cases hr
    · cases hr
  nd := fun f h' => findN_fun h h'

section
variable {P : Program} {N : Nat}
def LoopTo (P : Program) (N : Nat) (l : LE) (c : Code) : Prop := ∀ st a b, l.st.dec st = some a → l.f a = some b → To P N (.loop c) st (l.xt.enc b).1 (l.xt.enc b).2
def loopsOf : Code → List Code
  | .seq a b => loopsOf a ++ loopsOf b
  | .cond _ a b => loopsOf a ++ loopsOf b
  | .block _ c => loopsOf c
  | .loop c => [c]
  | _ => []
theorem loopsOk_of {ρ : Type} {cs : List (Nat × CE)} {ls : List (Nat × LE)} : ∀ (c : Code), (∀ b ∈ loopsOf c, ∃ l, findL ls (firstRegion b) = some l ∧ LoopTo P N l b) → LoopsOk P N (mkCx P cs ls : Cx ρ) c
  | .seq a b, h => ⟨loopsOk_of a fun x hx => h x (List.mem_append_left _ hx), loopsOk_of b fun x hx => h x (List.mem_append_right _ hx)⟩
  | .cond _ a b, h => ⟨loopsOk_of a fun x hx => h x (List.mem_append_left _ hx), loopsOk_of b fun x hx => h x (List.mem_append_right _ hx)⟩
  | .block _ c, h => loopsOk_of c h
  | .loop c, h => by
    obtain ⟨l, hl, hto⟩ := h c (by simp [loopsOf])
    intro st K r hr
    simp only [mkCx, hl] at hr
    split at hr
    · rename_i a ha
      cases hb : l.f a with
      | none => rw [hb] at hr; cases hr
      | some b => rw [hb] at hr; exact ⟨_, _, (l.xt.law b K).symm.trans hr, hto st a b ha hb⟩
    · cases hr
  | .skip, _ => trivial
  | .region .., _ => trivial
  | .rangeFunc .., _ => trivial
  | .exit _, _ => trivial
  | .scope _, _ => trivial
  | .label _, _ => trivial
  | .goto _, _ => trivial
  | .ret, _ => trivial
  | .refuse _, _ => trivial
def loopAt (c : Code) (i : Nat) : Code := (loopsOf c).getD i .skip
theorem loops_all {ls : List (Nat × LE)} {c : Code} (n : Nat) (hn : (loopsOf c).length = n) (h : ∀ i, i < n → ∃ l, findL ls (firstRegion (loopAt c i)) = some l ∧ LoopTo P N l (loopAt c i)) : ∀ b ∈ loopsOf c, ∃ l, findL ls (firstRegion b) = some l ∧ LoopTo P N l b := fun b hb => by
  obtain ⟨i, hi, rfl⟩ := List.getElem_of_mem hb
  have := h i (by omega)
  unfold loopAt at this
  simpa [List.getD, List.getElem?_eq_getElem hi] using this

/-- a loop whose rounds are told by 'f'. -/
theorem loop_to (hm : P.follows .mixedOrders = true) {cs : List (Nat × CE)} {ls : List (Nat × LE)} (hC : AllFun P cs) {l : LE} {c : Code} (hd : dstOk N c = true) (hL : ∀ b ∈ loopsOf c, ∃ l, findL ls (firstRegion b) = some l ∧ LoopTo P N l b)
    (h : ∀ a b, l.f a = some b → ∃ k, iter (evCode (mkCx P cs ls : Cx l.β) c) l.H l.xt.dec k (l.st.enc a) = some b) : LoopTo P N l c := by
  intro st a b ha hb w0 act w Q hR hQ
  obtain ⟨k, hk⟩ := h a b hb
  obtain ⟨e, st', hx, hto⟩ := iter_ok (P := P) (N := N) (fun st K r h => evCode_ok rfl hm (callsOk hC) c st K hd (loopsOk_of c hL) h) hk
  obtain ⟨e1, h2⟩ := l.xt.ok e st' b hx
  refine hto w0 act w Q (l.st.ok st a ha N w0 act w hR) fun a' w' hR' => ?_
  rw [← e1]
  exact hQ a' w' (h2 N w0 a' w' hR')

/-! ### functions -/
def entry : AV → SV
  | .pt xs => .pt xs
  | a => .p a
def initEnv : Nat → List AV → Env
  | _, [] => []
  | i, a :: r => (i, entry a) :: initEnv (i + 1) r
def ret1 {ρ : Type} (cx : Cx ρ) (st : S2) : ResultVar → Option AV
  | .tmp t => match get st.1 t with
    | .p a => some a
    | .osl id => (match getB st.2 id with
      | some (some (.row _ e l)) => some (.sl e l)
      | some (some (.fro e l)) => some (.sl e l)
      | _ => none)
    | _ => none
  | .cell a t => match get st.1 a with
    | .ref id off => (match getB st.2 id with | some (some (.vr xs)) => ldv cx t (xs.drop off) | _ => none)
    | _ => none
def retL {ρ : Type} (cx : Cx ρ) (st : S2) : List ResultVar → Option (List AV)
  | [] => some []
  | r :: l => match ret1 cx st r with
    | some a => (match retL cx st l with | some as => some (a :: as) | none => none)
    | none => none
/-- a result that is a solid of one's own. -/
def dep1 {ρ : Type} (cx : Cx ρ) (st : S2) : ResultVar → Option (List Value × List Tree)
  | .tmp t => match get st.1 t with
    | .kv kid xs => (match getB st.2 kid with | some (some (.kids l)) => some (xs, l) | _ => none)
    | _ => none
  | .cell a t => match get st.1 a with
    | .ref id off => (match getB st.2 id with
      | some (some (.vq kid xs)) => (match getB st.2 kid, Nat.beq off 0, agP cx.P t, szP cx.P t with
        | some (some (.kids l)), true, some true, some n => (match Nat.beq n (xs.length + 1) with | true => some (xs, l) | false => none)
        | _, _, _, _ => none)
      | _ => none)
    | _ => none
def depR {ρ : Type} (cx : Cx ρ) (st : S2) : List ResultVar → Option Rt
  | [r] => match dep1 cx st r with | some (xs, l) => some (.deep xs none l) | none => none
  | [r, r2] => match dep1 cx st r, ret1 cx st r2 with
    | some (xs, l), some (.v y) => some (.deep xs (some [y]) l)
    | _, _ => none
  | _ => none
def evRet0 {ρ : Type} (cx : Cx ρ) (st : S2) : List ResultVar → Option Rt
  | [.tmp t] => match get st.1 t with
    | .p a => some (.one a)
    | .osl id => (match getB st.2 id with
      | some (some (.row t e l)) => some (.own t e l)
      | some (some (.fro e l)) => some (.one (.sl e l))
      | some (some (.rs t te l)) => some (.rows t te l)
      | _ => none)
    | .ref id off => (match getB st.2 id with | some (some (.vr xs)) => (match Nat.beq off 0 with | true => some (.var xs) | false => none) | _ => none)
    | _ => none
  | [r] => (match ret1 cx st r with | some a => some (.one a) | none => none)
  | rs => (match retL cx st rs with | some l => some (.many l) | none => none)
def evRet {ρ : Type} (cx : Cx ρ) (st : S2) (rs : List ResultVar) : Option Rt := match depR cx st rs with
  | some rt => some rt
  | none => evRet0 cx st rs
def evFun {ρ : Type} (cx : Cx ρ) (fn : Func) (as : List AV) (K : Rt → Option ρ) : Option ρ := match fn.body with
  | some c => evCode cx c (initEnv 0 as, []) fun e st => match e with
    | .ret => (match evRet cx st fn.results.toList with | some rt => K rt | none => none)
    | .normal => (match evRet cx st fn.results.toList with | some rt => K rt | none => none)
    | _ => none
  | none => none
/-- the results beside a state. -/
def retS1 {ρ : Type} (cx : Cx ρ) (st : S2) : ResultVar → Option AV
  | .tmp t => match get st.1 t with
    | .p a => some a
    | .osl id => (match getB st.2 id with
      | some (some (.fro e l)) => some (.sl e l)
      | _ => none)
    | _ => none
  | .cell a t => match get st.1 a with
    | .ref id off => (match getB st.2 id with | some (some (.vr xs)) => ldv cx t (xs.drop off) | _ => none)
    | _ => none
def retSL {ρ : Type} (cx : Cx ρ) (st : S2) : List ResultVar → Option (List AV)
  | [] => some []
  | r :: l => match retS1 cx st r with
    | some a => (match retSL cx st l with | some as => some (a :: as) | none => none)
    | none => none
def evRetS {ρ : Type} (cx : Cx ρ) (st : S2) : List ResultVar → Option Rt
  | [.tmp t] => match get st.1 t with
    | .osl id => (match getB st.2 id with
      | some (some (.row t e l)) => (match Nat.beq id XID with | true => none | false => some (.own t e l))
      | some (some (.fro e l)) => some (.one (.sl e l))
      | _ => none)
    | .p a => some (.one a)
    | _ => none
  | [r] => (match retS1 cx st r with | some a => some (.one a) | none => none)
  | rs => (match retSL cx st rs with | some l => some (.many l) | none => none)
def initS : SK → Box → List AV → S2
  | .var, bx, as => ((0, .ref XID 0) :: initEnv 1 as, [(XID, some bx)])
  | .row, bx, as => ((0, .osl XID) :: initEnv 1 as, [(XID, some bx)])
  | .sol, bx, as => ((0, .dead) :: initEnv 1 as, [(XID, some bx)])
def finS {ρ : Type} (cx : Cx ρ) (st : S2) (rs : List ResultVar) : Option (Box × Rt) := match getB st.2 XID with
  | some (some b) => (match evRetS cx st rs with | some rt => some (b, rt) | none => none)
  | _ => none
def evFunS {ρ : Type} (cx : Cx ρ) (fn : Func) (sk : SK) (bx : Box) (as : List AV) (K : Box → Rt → Option ρ) : Option ρ := match fn.body with
  | some c => evCode cx c (initS sk bx as) fun e st => match e with
    | .ret => (match finS cx st fn.results.toList with | some p => K p.1 p.2 | none => none)
    | .normal => (match finS cx st fn.results.toList with | some p => K p.1 p.2 | none => none)
    | _ => none
  | none => none
end
end Go.Proofs.YtalkkenkeilmpaaGreat.Ev
