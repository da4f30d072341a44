/- An evaluator for a part of the model's code (whole numbers, structs, arrays, slices that are read or that the call makes), and the proof that what it tells is what the code does. -/
import Derived.Below
import Derived.Deep.Draws
import Derived.WalkKit
import Derived.Orders
import Derived.KernelRfl
import Derived.Tactics
namespace Go.Proofs.YtalkkenkeilmpaaGreat.Ev
open Go Go.RowKit
set_option linter.unusedVariables false
set_option linter.unusedSimpArgs false

/-- four whole numbers: a plane, a spot, a row of four. -/
structure S4 where
  a : Int
  b : Int
  c : Int
  d : Int
  deriving DecidableEq, Inhabited

/-- a solid as a tree. -/
inductive Tree where
  | mk (inn : Bool) (p : S4) (kids : List Tree)
instance : Inhabited Tree := ⟨.mk false default []⟩
def Tree.inn : Tree → Bool | .mk b _ _ => b
def Tree.p : Tree → S4 | .mk _ p _ => p
def Tree.kids : Tree → List Tree | .mk _ _ k => k

/-- a sign and digits. -/
structure Nm where
  neg : Bool
  d : List Int
  deriving DecidableEq, Inhabited
/-- two whole numbers. -/
structure I2 where
  x : Int
  y : Int
  deriving DecidableEq, Inhabited

/-- a solid as its cells: what its kids' slice is, told as a value. -/
structure RT where
  inn : Bool
  p : S4
  a : Option Addr
  n : Nat
  cap : Nat
instance : Inhabited RT := ⟨⟨false, default, none, 0, 0⟩⟩
/-- what the elements of a slice are. -/
inductive El where
  | i (k : IntKind)
  | s4
  | rows
  | tree
  | num
  | i2
  | rt
  deriving DecidableEq
@[reducible] def El.T : El → Type
  | .i _ => Int
  | .s4 => S4
  | .rows => List S4
  | .tree => Tree
  | .num => Nm
  | .i2 => I2
  | .rt => RT
instance El.inh (e : El) : Inhabited e.T := match e with
  | .i _ => ⟨(0 : Int)⟩
  | .s4 => ⟨(default : S4)⟩
  | .rows => ⟨([] : List S4)⟩
  | .tree => ⟨(default : Tree)⟩
  | .num => ⟨(default : Nm)⟩
  | .i2 => ⟨(default : I2)⟩
  | .rt => ⟨(default : RT)⟩
def El.z : El → Nat
  | .i _ => 1
  | .s4 => 4
  | .rows => 1
  | .tree => 6
  | .num => 2
  | .i2 => 2
  | .rt => 6

/-- what is told of a value without addresses of one's own. -/
inductive AV where
  | v (x : Value)
  | agg (xs : List AV)
  | sl (e : El) (l : List e.T)
  | pt (xs : List AV)

/-- an element's cells. -/
def El.cell : (e : El) → e.T → Nat → AV
  | .i k, x, _ => .v (.int k x)
  | .s4, x, c => match c with
    | 0 => .v (.int .i64 (S4.a x))
    | 1 => .v (.int .i64 (S4.b x))
    | 2 => .v (.int .i64 (S4.c x))
    | _ => .v (.int .i64 (S4.d x))
  | .rows, x, _ => .sl .s4 x
  | .tree, x, c => match c with
    | 0 => .v (.bool (Tree.inn x))
    | 1 => .v (.int .i64 (S4.a (Tree.p x)))
    | 2 => .v (.int .i64 (S4.b (Tree.p x)))
    | 3 => .v (.int .i64 (S4.c (Tree.p x)))
    | 4 => .v (.int .i64 (S4.d (Tree.p x)))
    | _ => .sl .tree (Tree.kids x)
  | .num, x, c => match c with
    | 0 => .v (.bool (Nm.neg x))
    | _ => .sl (.i .i64) (Nm.d x)
  | .i2, x, c => match c with
    | 0 => .v (.int .i64 (I2.x x))
    | _ => .v (.int .i64 (I2.y x))
  | .rt, x, c => match c with
    | 0 => .v (.bool (RT.inn x))
    | 1 => .v (.int .i64 (S4.a (RT.p x)))
    | 2 => .v (.int .i64 (S4.b (RT.p x)))
    | 3 => .v (.int .i64 (S4.c (RT.p x)))
    | 4 => .v (.int .i64 (S4.d (RT.p x)))
    | _ => .v (.slice (RT.a x) (RT.n x) (RT.cap x))

/-- what lies in a block of one's own: a variable's cells; a row. -/
inductive Box where
  | vr (xs : List AV)
  | row (t : TypeId) (e : El) (l : List e.T)
  | fro (e : El) (l : List e.T)
  | tr (t : Tree)
  | kids (l : List Tree)
  | rs (t te : TypeId) (l : List (List S4))
  | vq (kid : Nat) (xs : List Value)
inductive BK where
  | one
  | fro
  | deep
def Box.kind : Box → BK
  | .vr _ => .one
  | .row _ _ _ => .one
  | .fro _ _ => .fro
  | .tr _ => .deep
  | .kids _ => .deep
  | .rs _ _ _ => .deep
  | .vq _ _ => .one

/-- what is told of a temporary. -/
inductive SV where
  | p (a : AV)
  | tup (xs : List AV)
  | osl (id : Nat)
  | ref (id off : Nat)
  | eref (id j c : Nat)
  | rix (id off n : Nat) (i : Int)
  | pt (xs : List AV)
  | kv (kid : Nat) (xs : List Value)
  | tkv (kid : Nat) (xs ys : List Value)
  | dead

inductive Rep (w : World) (ro : Nat → Prop) : Value → AV → Prop
  | v (x : Value) : Rep w ro x (.v x)
  | agg (xs : Array Value) (ys : List AV) (hn : xs.size = ys.length) (h : ∀ (i : Nat) (x : Value) (y : AV), xs[i]? = some x → ys[i]? = some y → Rep w ro x y) : Rep w ro (.agg xs) (.agg ys)
  | sl (A : Option Addr) (cap : Nat) (e : El) (l : List e.T) (vals : Nat → Nat → Value) (hcap : l.length ≤ cap) (hnil : A = none → cap = 0)
      (hA : ∀ j, j < l.length → ∃ a, A = some a ∧ a.spot = none ∧ ro a.block ∧ ∀ c, c < e.z → w.cell? ⟨a.block, a.off + (j * e.z + c), none⟩ = some (vals j c))
      (h : ∀ j c, j < l.length → c < e.z → Rep w ro (vals j c) (e.cell (l.getD j default) c)) : Rep w ro (.slice A l.length cap) (.sl e l)
  | pt (a : Addr) (ys : List AV) (vals : Nat → Value) (hs : a.spot = none) (hr : ro a.block) (hc : ∀ i, i < ys.length → w.cell? ⟨a.block, a.off + i, none⟩ = some (vals i)) (h : ∀ (i : Nat) (y : AV), ys[i]? = some y → Rep w ro (vals i) y) : Rep w ro (.pointer (some a)) (.pt ys)

theorem Rep.mono {w w' : World} {ro ro' : Nat → Prop} (hro : ∀ b, ro b → ro' b) (hw : ∀ b, ro b → w'.heap[b]? = w.heap[b]?) {x : Value} {a : AV} (h : Rep w ro x a) : Rep w' ro' x a := by
  induction h with
  | v x => exact .v x
  | agg xs ys hn h ih => exact .agg xs ys hn ih
  | sl A cap e l vals hcap hnil hA h ih =>
    refine .sl A cap e l vals hcap hnil (fun j hj => ?_) ih
    obtain ⟨a, ha, hs, hr, hc⟩ := hA j hj
    refine ⟨a, ha, hs, hro _ hr, fun c hc' => ?_⟩
    rw [← hc c hc']
    unfold World.cell?
    rw [hw a.block hr]
  | pt a ys vals hs hr hc h ih =>
    refine .pt a ys vals hs (hro _ hr) (fun i hi => ?_) ih
    rw [← hc i hi]; unfold World.cell?; rw [hw _ hr]

/-- what a number of ours is: the value that leads to it, its block; of a row the elements' type and size, its length. -/
structure Blk where
  v : Value
  own : Option Nat
  t : TypeId := 0
  z : Nat := 0
  n : Nat := 0
  fp : List Nat := []
  lk : Value := undef
/-- the blocks that a box has for itself. -/
def owns : BK → Blk → Nat → Prop
  | .one, k, b => k.own = some b
  | .fro, _, _ => False
  | .deep, k, b => b ∈ k.fp

/-- rows of trees that are all there just once; the blocks. -/
inductive OwnK (w : World) : List Nat → Value → List Tree → Prop
  | nil (A : Option Addr) (cap : Nat) (h : A = none → cap = 0) : OwnK w [] (.slice A 0 cap) []
  | cons (b cap : Nat) (l : List Tree) (fps : Nat → List Nat) (kv : Nat → Value) (cur : Array Value) (tt : TypeId) (hn : l ≠ []) (hcap : l.length ≤ cap) (hm : cap ≤ maxLen) (hz : cap * 6 ≤ cur.size) (hh : w.heap[b]? = some (.cells cur tt (0, 0)))
      (hc : ∀ j c v, j < l.length → c < 5 → El.cell .tree (l.getD j default) c = .v v → cur[j * 6 + c]? = some v)
      (hk : ∀ j, j < l.length → cur[j * 6 + 5]? = some (kv j))
      (h : ∀ j, j < l.length → OwnK w (fps j) (kv j) (l.getD j default).kids) : OwnK w (b :: (List.range l.length).flatMap fps) (.slice (some ⟨b, 0, none⟩) l.length cap) l
/-- a row in a block of its own: as the kit's word, but that the block may hold more than the slice can come to. -/
def ownsW (w : World) (base : Nat) (e : TypeId) (size : Nat) (v : Value) (n : Nat) (xs : List Value) : Prop :=
  xs.length = n * size ∧
  ((v = .slice none 0 0 ∧ n = 0) ∨
   ∃ g cap cur, v = .slice (some ⟨g, 0, none⟩) n cap ∧ base ≤ g ∧ w.heap[g]? = some (.cells cur e (0, 0)) ∧ n ≤ cap ∧ cap ≤ maxLen ∧ cap * size ≤ cur.size ∧ cur.toList.take (n * size) = xs)
section
variable {w : World} {base : Nat} {e : TypeId} {size : Nat} {v : Value} {n : Nat} {xs : List Value}
theorem ownsW.ofRow (h : w.ownsRow base e size v n xs) : ownsW w base e size v n xs := by
  obtain ⟨h1, h | ⟨g, cap, cur, h2, h3, h4, h5, h6, h7, h8⟩⟩ := h
  · exact ⟨h1, .inl h⟩
  · exact ⟨h1, .inr ⟨g, cap, cur, h2, h3, h4, h5, h6, by rw [h7]; exact Nat.le_refl _, h8⟩⟩
theorem ownsW_nil (w : World) (base : Nat) (e : TypeId) (size : Nat) : ownsW w base e size (.slice none 0 0) 0 [] := ⟨by simp, .inl ⟨rfl, rfl⟩⟩
theorem ownsW_lit (w : World) (cs : Array Value) (n : Nat) (hb : base ≤ w.heap.size) (hm : n ≤ maxLen) (hs : cs.size = n * size) : ownsW (w.alloc (.cells cs e)) base e size (.slice (some ⟨w.heap.size, 0, none⟩) n n) n cs.toList := .ofRow (World.ownsRow_lit w cs n hb hm hs)
theorem ownsW.lt (h : ownsW w base e size v n xs) : ∀ k, v.ownBlock = some k → base ≤ k ∧ k < w.heap.size := by
  intro k hk
  rcases h.2 with ⟨rfl, _⟩ | ⟨g, cap, cur, rfl, hb, hg, _⟩
  · simp [Value.ownBlock] at hk
  · simp [Value.ownBlock] at hk
    subst hk
    exact ⟨hb, (Array.getElem?_eq_some_iff.1 hg).1⟩
theorem ownsW.cellAt {g cap : Nat} (h : ownsW w base e size (.slice (some ⟨g, 0, none⟩) n cap) n xs) (j : Nat) (hj : j < n * size) : w.cell? ⟨g, j, none⟩ = xs[j]? := by
  rcases h.2 with ⟨h', _⟩ | ⟨g', cap', cur, h', _, hg, _, _, _, htake⟩
  · simp at h'
  · simp only [Value.slice.injEq, Option.some.injEq, Addr.mk.injEq, and_true, true_and] at h'
    obtain ⟨rfl, rfl⟩ := h'
    rw [← htake, List.getElem?_take, if_pos hj]
    unfold World.cell?
    simp [hg]
theorem ownsW.cells (h : ownsW w base e size v n xs) {g : Nat} (hg : v.ownBlock = some g) : ∀ j u, xs[j]? = some u → w.cell? ((⟨g, 0, none⟩ : Addr).add j) = some u := by
  intro j u hu
  rcases h.2 with ⟨rfl, _⟩ | ⟨g', cap, cur, rfl, h3, h4, h5, h6, h7, h8⟩
  · simp [Value.ownBlock] at hg
  · simp [Value.ownBlock] at hg
    subst hg
    have hadd : (⟨g', 0, none⟩ : Addr).add j = ⟨g', j, none⟩ := by unfold Addr.add; split <;> simp_all
    have hj : j < n * size := by have := (List.getElem?_eq_some_iff.1 hu).1; rwa [h.1] at this
    rw [hadd, ownsW.cellAt (cap := cap) ⟨h.1, .inr ⟨g', cap, cur, rfl, h3, h4, h5, h6, h7, h8⟩⟩ j hj]; exact hu
end
/-- a row of numbers that is all its own; its block. -/
def OwnP (te : TypeId) (w : World) (fp : List Nat) (v : Value) (l : List S4) : Prop := ∃ xs, ownsW w 0 te 4 v l.length xs ∧ fp = v.ownBlock.toList ∧ ∀ j c, j < l.length → c < 4 → ∃ x, xs[j * 4 + c]? = some x ∧ El.cell .s4 (l.getD j default) c = .v x
/-- a row of such rows. -/
def OwnR (t te : TypeId) (w : World) (fp : List Nat) (v : Value) (l : List (List S4)) : Prop := ∃ (xs : List Value) (fps : Nat → List Nat), ownsW w 0 t 1 v l.length xs ∧ fp = v.ownBlock.toList ++ (List.range l.length).flatMap fps ∧ ∀ j, j < l.length → ∃ u, xs[j]? = some u ∧ OwnP te w (fps j) u (l.getD j default)
def BoxRep (w : World) (ro : Nat → Prop) (base : Nat) (k : Blk) : Box → Prop
  | .vr xs => ∃ b c t, k.own = some b ∧ w.heap[b]? = some (.cells c t (0, 0)) ∧ c.size = xs.length ∧ ∀ (i : Nat) (y : AV), xs[i]? = some y → ∃ x, c[i]? = some x ∧ Rep w ro x y
  | .row t e l => k.t = t ∧ k.z = e.z ∧ k.n = l.length ∧ k.own = k.v.ownBlock ∧ ∃ xs, ownsW w base k.t e.z k.v k.n xs ∧ ∀ j c, j < l.length → c < e.z → ∃ x, xs[j * e.z + c]? = some x ∧ Rep w ro x (e.cell (l.getD j default) c)
  | .fro e l => Rep w ro k.v (.sl e l)
  | .tr t => ∃ kv, k.v = .agg #[.bool t.inn, .int .i64 t.p.a, .int .i64 t.p.b, .int .i64 t.p.c, .int .i64 t.p.d, kv] ∧ OwnK w k.fp kv t.kids ∧ k.fp.Nodup
  | .kids l => OwnK w k.fp k.v l ∧ k.fp.Nodup
  | .rs t te l => OwnR t te w k.fp k.v l ∧ k.fp.Nodup
  | .vq _ xs => ∃ b c t, k.own = some b ∧ w.heap[b]? = some (.cells c t (0, 0)) ∧ c.toList = xs ++ [k.lk]

/-- what is told of a temporary holds of its value. -/
def RepS (w : World) (ro : Nat → Prop) (β : Nat → Option Blk) (x : Value) : SV → Prop
  | .p a => Rep w ro x a
  | .tup xs => ∃ vs : Array Value, x = .tuple vs ∧ vs.size = xs.length ∧ ∀ (i : Nat) (v : Value) (y : AV), vs[i]? = some v → xs[i]? = some y → Rep w ro v y
  | .osl id => ∃ k, β id = some k ∧ x = k.v
  | .ref id off => ∃ k b, β id = some k ∧ k.own = some b ∧ x = .pointer (some ⟨b, off, none⟩)
  | .eref id j c => ∃ k b, β id = some k ∧ k.own = some b ∧ x = .pointer (some ⟨b, j * k.z + c, none⟩)
  | .rix id off n i => ∃ k b, β id = some k ∧ k.own = some b ∧ x = .pointer (some ⟨b, off + i.toNat, none⟩) ∧ 0 ≤ i ∧ i < n
  | .pt xs => ∃ a : Addr, x = .pointer (some a) ∧ a.spot = none ∧ ro a.block ∧ ∀ (i : Nat) (y : AV), xs[i]? = some y → ∃ v, w.cell? ⟨a.block, a.off + i, none⟩ = some v ∧ Rep w ro v y
  | .kv id xs => ∃ k, β id = some k ∧ x = .agg (xs ++ [k.v]).toArray
  | .tkv id xs ys => ∃ k, β id = some k ∧ x = .tuple (.agg (xs ++ [k.v]).toArray :: ys).toArray
  | .dead => True

abbrev Env := List (Nat × SV)
abbrev Bxs := List (Nat × Option Box)
def get : Env → Nat → SV
  | [], _ => .dead
  | (k, v) :: r, s => match Nat.beq k s with | true => v | false => get r s
def getB : Bxs → Nat → Option (Option Box)
  | [], _ => none
  | (k, v) :: r, s => match Nat.beq k s with | true => some v | false => getB r s

/-! ### what an operation does -/
def pureRun (P : Program) {α : Type} : Sem α → Option α
  | .pure a => some a
  | .program k => pureRun P (k P)
  | _ => none

theorem run_pureRun {P : Program} {α : Type} {s : Sem α} {a : α} (h : pureRun P s = some a) (w : World) : s.run P w = .ok a w := by
  induction s with
  | pure b => simp only [pureRun, Option.some.injEq] at h; subst h; rfl
  | program k ih => exact ih P h
  | _ => simp [pureRun] at h

/-! the count of draws goes up. -/
theorem ask_drawn {α : Type} (k : Ask α) : ∀ w : World, w.drawn ≤ (w.ask k).2.drawn := by
  induction k with
  | done a => intro w; exact Nat.le_refl _
  | ask what range k ih =>
    intro w
    unfold World.ask
    simp only
    split
    · exact ih _ w
    · exact Nat.le_trans (Nat.le_succ _) (ih _ { w with drawn := w.drawn + 1 })
theorem sys_drawn (w : World) (c : Sys) : w.drawn ≤ (w.sys c).2.drawn := by
  have h := ask_drawn (Kernel.perform c w.os) w
  unfold World.sys
  split
  · exact Nat.le_refl _
  · rename_i h2; rw [h2] at h; exact h
theorem viewStore_drawn {p : Program} {w w' : World} {at_ : Addr} {u : TypeId} {k : Addr} {v : Value} {b : Bool} {l : List Addr} (h : w.viewStore p at_ u k v b = .ok (w', l)) : w'.drawn = w.drawn := by
  unfold World.viewStore at h
  simp only [bind, Except.bind, pure, Except.pure, throw, throwThe, MonadExceptOf.throw] at h
  repeat' (split at h)
  all_goals first
    | (cases h; done)
    | (cases h; rfl)
theorem farStore_drawn {p : Program} {w w' : World} {a : Addr} {v : Value} {b : Bool} {l : List Addr} (h : w.farStore p a v b = .ok (w', l)) : w'.drawn = w.drawn := by
  unfold World.farStore at h
  split at h
  · split at h
    · rename_i r hr; cases h; exact viewStore_drawn hr
    · cases h
  · cases h
theorem run_drawn {α : Type} {P : Program} (s : Sem α) : ∀ {w w' : World} {a : α}, s.run P w = .ok a w' → w.drawn ≤ w'.drawn := by
  induction s with
  | pure a => intro w w' b h; cases h; exact Nat.le_refl _
  | load m a k ih =>
    intro w w' b h
    unfold Sem.run at h
    split at h
    · exact ih _ h
    · split at h
      · exact ih _ h
      · cases h
  | store m a v k ih =>
    intro w w' b h
    have key : (match w.cell? a with
      | some _ => if w.frozen? a then .halt (.unsupported (.unsafePointer "a write to bytes that a string shares")) w else k.run P (w.setCell a v)
      | none => match w.farStore P a v (m == .atomic) with
        | .ok (w, _) => k.run P w
        | .error h => .halt h w) = Result.ok b w' → w.drawn ≤ w'.drawn := fun h => by
      split at h
      · split at h
        · cases h
        · exact ih (w := w.setCell a v) h
      · split at h
        · rename_i hf; have := ih h; rw [farStore_drawn hf] at this; exact this
        · cases h
    cases v <;> first | (cases h; done) | exact key h
  | new o k ih => intro w w' b h; exact ih _ (w := { w with heap := w.heap.push o }) h
  | shape r k ih => intro w w' b h; exact ih _ h
  | freeze a n k ih =>
    intro w w' b h
    have := ih (w := w.freeze a n) h
    unfold World.freeze at this
    split at this <;> exact this
  | frozen a k ih => intro w w' b h; exact ih _ h
  | getObj r k ih =>
    intro w w' b h
    unfold Sem.run at h
    split at h
    · cases h
    · exact ih _ h
    · cases h
  | setObj r o k ih =>
    intro w w' b h
    unfold Sem.run at h
    split at h
    · cases h
    · exact ih (w := { w with heap := w.heap.setIfInBounds r o }) h
    · cases h
  | choose q k ih =>
    intro w w' b h
    unfold Sem.run at h
    split at h
    · exact ih _ h
    · exact Nat.le_trans (Nat.le_succ _) (ih _ h)
  | sys c k ih => intro w w' b h; exact Nat.le_trans (sys_drawn w c) (ih _ h)
  | program k ih => intro w w' b h; exact ih _ h
  | mark m k ih => intro w w' b h; exact ih h
  | halt h0 => intro w w' b h; cases h
structure Upd where
  v : SV
  bs : Bxs

inductive Rt where
  | one (a : AV)
  | many (xs : List AV)
  | own (t : TypeId) (e : El) (l : List e.T)
  | var (xs : List AV)
  | deep (xs : List Value) (ys : Option (List Value)) (l : List Tree)
  | rows (t te : TypeId) (l : List (List S4))

/-- what a call's first argument, which it writes into, is: a variable, or a row. -/
inductive SK where
  | var
  | row
  | sol

structure Cx (ρ : Type) where
  P : Program
  call : Nat → List AV → (Rt → Option ρ) → Option ρ
  stf : Nat → Option SK
  callS : Nat → Box → List AV → (Box → Rt → Option ρ) → Option ρ
  rrf : Nat → Bool
  callR : Nat → Box → (Box → Option ρ) → Option ρ
  ndf : Nat → Bool
  loop : Nat → Env × Bxs → (Exit → Env × Bxs → Option ρ) → Option ρ

def cellsA : AV → List AV
  | .v (.agg xs) => xs.toList.map .v
  | .agg ys => ys
  | a => [a]
def allV : List AV → Option (List Value)
  | [] => some []
  | .v x :: r => match allV r with | some vs => some (x :: vs) | none => none
  | _ => none
def mk (xs : List AV) : AV := match allV xs with | some vs => .v (.agg vs.toArray) | none => .agg xs
def aggA : AV → Bool
  | .v (.agg _) => true
  | .agg _ => true
  | _ => false
def flat : AV → Bool
  | .v (.agg _) => false
  | .v (.tuple _) => false
  | .v _ => true
  | .agg _ => false
  | .sl _ _ => true
  | .pt _ => false
def splice (xs : List AV) (off : Nat) (ys : List AV) : List AV := xs.take off ++ ys ++ xs.drop (off + ys.length)
def El.cells (e : El) (x : e.T) : List AV := (List.range e.z).map (e.cell x)
def kidsOf : AV → Option (List Tree)
  | .sl .tree l => some l
  | .v (.slice none 0 0) => some []
  | _ => none
def rowOf : AV → Option (List S4)
  | .sl .s4 l => some l
  | .v (.slice none 0 0) => some []
  | _ => none
def numOf : AV → Option (List Int)
  | .sl (.i .i64) l => some l
  | .v (.slice none 0 0) => some []
  | _ => none
def El.dec : (e : El) → List AV → Option e.T
  | .i k, [.v (.int k' n)] => if k = k' then some n else none
  | .s4, [.v (.int .i64 a), .v (.int .i64 b), .v (.int .i64 c), .v (.int .i64 d)] => some (S4.mk a b c d)
  | .rows, [x] => rowOf x
  | .tree, [.v (.bool b), .v (.int .i64 x), .v (.int .i64 y), .v (.int .i64 z), .v (.int .i64 u), k] => match kidsOf k with | some l => some (Tree.mk b (S4.mk x y z u) l) | none => none
  | .num, [.v (.bool b), k] => match numOf k with | some l => some (Nm.mk b l) | none => none
  | .i2, [.v (.int .i64 a), .v (.int .i64 b)] => some (I2.mk a b)
  | .rt, [.v (.bool b), .v (.int .i64 x), .v (.int .i64 y), .v (.int .i64 z), .v (.int .i64 u), .v (.slice a n c)] => some (RT.mk b (S4.mk x y z u) a n c)
  | _, _ => none

/-- the box of an argument that the call writes into. -/
def XID : Nat := 999999
section
variable {ρ : Type} (cx : Cx ρ) (g : Nat → SV) (gB : Nat → Option (Option Box))
def sv : Operand → SV
  | .tmp t => g t
  | .const v => .p (.v v)
  | .func f => .p (.v (.func (.func f) #[] #[]))
  | .global _ => .dead
def rowB (id : Nat) : Option Box := match gB id with | some (some x) => some x | _ => none
/-- an operand's value, as it is seen (a row of one's own, too). -/
def exA (x : Operand) : Option AV := match sv g x with
  | .p a => some a
  | .osl id => match gB id with
    | some (some (.row _ e l)) => some (.sl e l)
    | some (some (.fro e l)) => some (.sl e l)
    | some (some (.kids l)) => some (.sl .tree l)
    | some (some (.rs _ _ l)) => some (.sl .rows l)
    | _ => none
  | .kv id xs => match gB id with
    | some (some (.kids l)) => some (.agg (xs.map .v ++ [.sl .tree l]))
    | _ => none
  | .pt xs => some (.pt xs)
  | .ref id off => match gB id with | some (some (.vr xs)) => some (.pt (xs.drop off)) | _ => none
  | _ => none
/-- a row that is read at once. -/
def exN (x : Operand) : Option AV := match sv g x with
  | .p a => some a
  | .osl id => match gB id with
    | some (some (.row _ e l)) => some (.sl e l)
    | some (some (.fro e l)) => some (.sl e l)
    | _ => none
  | _ => none
/-- an operand's value that goes into memory or away: a row of one's own is written no more. -/
def exF (x : Operand) : Option (AV × Bxs) := match sv g x with
  | .p a => some (a, [])
  | .osl id => match gB id with
    | some (some (.row _ e l)) => some (.sl e l, [(id, some (.fro e l))])
    | some (some (.fro e l)) => some (.sl e l, [])
    | _ => none
  | _ => none
def szP (P : Program) (t : TypeId) : Option Nat := match P.info? t with | some i => some i.size | none => none
def agP (P : Program) (t : TypeId) : Option Bool := match P.underlying t with
  | some (.struct _) => some true
  | some (.array _ _) => some true
  | some _ => some false
  | none => none
def ldv (t : TypeId) (xs : List AV) : Option AV := match agP cx.P t with
  | some true => match szP cx.P t with
    | some n => match Nat.ble n xs.length with | true => some (mk (xs.take n)) | false => none
    | none => none
  | some false => match xs with | x :: _ => some x | [] => none
  | none => none
def fld (P : Program) (s : TypeId) (f : Nat) : Option (Nat × TypeId) := match P.underlying s with
  | some (.struct fs) => match fs[f]? with
    | some fd => match P.info? fd.type with
      | some i => match Nat.beq i.size 0 with | true => none | false => some (fd.offset, fd.type)
      | none => none
    | none => none
  | _ => none
def byIx (i : Int) (K : Nat → Option ρ) : Nat → Nat → Option ρ
  | 0, _ => none
  | n + 1, c => if i = (c : Int) then K c else byIx i K n (c + 1)
def isC : Operand → Bool
  | .const _ => true
  | _ => false
/-- an array of numbers at an index. -/
def sel (l : List Int) (i : Int) : Int := l.getD i.toNat 0
def intsOf : List AV → Option (List Int)
  | [] => some []
  | .v (.int .i64 a) :: r => (match intsOf r with | some l => some (a :: l) | none => none)
  | _ => none
def elOfZero : Option Value → Option El
  | some (.int k _) => some (.i k)
  | some (.agg ⟨[.int .i64 _, .int .i64 _, .int .i64 _, .int .i64 _]⟩) => some .s4
  | some (.agg ⟨[.bool _, .int .i64 _, .int .i64 _, .int .i64 _, .int .i64 _, .slice _ _ _]⟩) => some .tree
  | some (.slice _ _ _) => some .rows
  | some (.agg ⟨[.bool _, .slice _ _ _]⟩) => some .num
  | some (.agg ⟨[.int .i64 _, .int .i64 _]⟩) => some .i2
  | _ => none
/-- what the elements of a slice of this type are; they take up to 64 bytes. -/
def elI (P : Program) (t : TypeId) : Option El := match P.info? t with
  | some i => match elOfZero i.zero with
    | some e => match Nat.beq i.size e.z, Nat.ble i.bytes 64 with | true, true => some e | _, _ => none
    | none => none
  | none => none
def zok : Value → Bool
  | .int _ n => decide (n = 0)
  | .agg ⟨[.int _ a, .int _ b, .int _ c, .int _ d]⟩ => decide (a = 0) && decide (b = 0) && decide (c = 0) && decide (d = 0)
  | .agg ⟨[.bool x, .int _ a, .int _ b, .int _ c, .int _ d, .slice none 0 0]⟩ => !x && decide (a = 0) && decide (b = 0) && decide (c = 0) && decide (d = 0)
  | .slice none 0 0 => true
  | _ => false
def zeroP (P : Program) (t : TypeId) : Option Value := match P.info? t with | some i => i.zero | none => none
def iN (x : Option AV) : Option Int := match x with | some (.v (.int _ n)) => some n | _ => none
def args (xs : List Operand) : Option (List AV) := match xs with
  | [] => some []
  | x :: r => match exA g gB x with
    | some a => match args r with | some l => some (a :: l) | none => none
    | none => none
def argsF (xs : List Operand) : Option (List AV × Bxs) := match xs with
  | [] => some ([], [])
  | x :: r => match sv g x with
    | .pt ys => (match argsF r with | some (l, bs) => some (.pt ys :: l, bs) | none => none)
    | .kv id ys => (match gB id with
      | some (some (.kids l)) => (match argsF r with | some (as, bs) => some (.agg (ys.map .v ++ [.sl .tree l]) :: as, (id, some (.fro .tree l)) :: bs) | none => none)
      | _ => none)
    | _ => match exF g gB x with
      | some (a, bs) => (match argsF r with | some (l, bs') => some (a :: l, bs ++ bs') | none => none)
      | none => none
def plainA : AV → Bool
  | .v _ => true
  | _ => false
def parts (xs : List (Nat × Operand)) : Option (List (Nat × AV) × Bxs) := match xs with
  | [] => some ([], [])
  | (i, x) :: r => match exF g gB x with
    | some (a, bs) => match parts r with | some (l, bs') => some ((i, a) :: l, bs ++ bs') | none => none
    | none => none
def rho (x : Operand) : Value := match sv g x with | .p (.v v) => v | _ => undef
def exact (x : Operand) : Bool := match sv g x with | .p (.v _) => true | _ => false
/-- the elements of a literal, in order from number 'i' on -/
def lits (e : El) : Nat → List (Nat × AV) → Option (List e.T)
  | _, [] => some []
  | i, (j, a) :: r => match Nat.beq i j with
    | true => match e.dec (cellsA a) with
      | some x => match lits e (i + 1) r with | some l => some (x :: l) | none => none
      | none => none
    | false => none
def fillA (place : Nat → Option (Nat × Nat)) : List AV → List (Nat × AV) → Option (List AV)
  | cells, [] => some cells
  | cells, (i, a) :: r => match place i with
    | some (off, size) => match Nat.beq (cellsA a).length size, Nat.ble (off + size) cells.length with
      | true, true => fillA place (splice cells off (cellsA a)) r
      | _, _ => none
    | none => none
def bplace (P : Program) (t : TypeId) : Option (Nat → Option (Nat × Nat)) := match P.underlying t with
  | some (.struct fields) => match fields.toList.mapM (fun f => (P.info? f.type).map fun i => (f.offset, i.size)) with
    | some places => some (fun i => places[i]?)
    | none => none
  | some (.array _ e) => match P.info? e with
    | some ie => some (fun i => some (i * ie.size, ie.size))
    | none => none
  | _ => none
/-- is a row of that length short enough? By 'Nat.ble', so that the kernel, which may unfold it, comes to a halt at once. -/
def lt47 (n : Nat) : Bool := Nat.ble n 2199023255551
theorem lt47_iff {n : Nat} : lt47 n = true ↔ n < 2199023255552 := by unfold lt47; rw [Nat.ble_eq]; omega

/-- are these cells, numbers and bools, the same? -/
def eqL : List Value → List Value → Option Bool
  | [.int k a], [.int k' b] => if k = k' then some (a == b) else none
  | [.bool a], [.bool b] => some (a == b)
  | .int k a :: r, .int k' b :: s => if k = k' then (match eqL r s with | some q => some ((a == b) && q) | none => none) else none
  | .bool a :: r, .bool b :: s => (match eqL r s with | some q => some ((a == b) && q) | none => none)
  | _, _ => none
/-- the cells fit the types: numbers and bools. -/
def fitL (P : Program) : List TypeId → List Value → Bool
  | [], [] => true
  | t :: ts, .int _ _ :: vs => (match P.underlying t with | some (.int _) => fitL P ts vs | _ => false)
  | t :: ts, .bool _ :: vs => (match P.underlying t with | some .bool => fitL P ts vs | _ => false)
  | _, _ => false
def fieldsB : Nat → List Field → Bool
  | _, [] => true
  | i, f :: r => match f.name != "_", Nat.beq f.offset i with
    | true, true => fieldsB (i + 1) r
    | _, _ => false
def eqT (P : Program) (t : TypeId) (xs : List Value) : Bool := match P.eqGuardType P.depth t with
  | true => false
  | false => match P.underlying t with
    | some (.struct fs) => match P.stoodInHeld t, fieldsB 0 fs.toList with
      | false, true => fitL P (fs.toList.map (·.type)) xs
      | _, _ => false
    | some (.array m e) => match P.info? e with
      | some i => (match Nat.beq i.size 1 with | true => fitL P (List.replicate m e) xs | false => false)
      | none => false
    | _ => false
def sameOpd : Operand → Operand → Bool
  | .tmp a, .tmp b => Nat.beq a b
  | .const (.int k a), .const (.int k' b) => decide (k = k') && decide (a = b)
  | _, _ => false

def noSel : Op → Bool
  | .select _ _ => false
  | _ => true
def evPure (o : Oper) (K : Upd → Option ρ) : Option ρ :=
  match noSel o.op && o.op.operands.toList.all (exact g) with
  | true => match pureRun cx.P (execOp (rho g) o) with
    | some (.value x) => K ⟨.p (.v x), []⟩
    | _ => none
  | false => none

/-- elements that lead nowhere. -/
def plainE : El → Bool
  | .i _ => true
  | .s4 => true
  | .i2 => true
  | _ => false
/-- a value that is a function. -/
def fnv : SV → Option Nat
  | .p (.v (.func (.func f) ⟨[]⟩ ⟨[]⟩)) => some f
  | _ => none
/-- the first argument of a call that writes into it. -/
def stA (k : SK) (x : Operand) : Option (Nat × Box) := match k, sv g x with
  | .var, .ref id 0 => (match gB id with | some (some (.vr xs)) => some (id, .vr xs) | _ => none)
  | .row, .osl id => (match gB id with
    | some (some (.row t e l)) => some (id, .row t e l)
    | some (some (.tr t)) => some (id, .tr t)
    | some (some (.kids l)) => some (id, .kids l)
    | some (some (.rs t te l)) => some (id, .rs t te l)
    | _ => none)
  | .sol, .kv id xs => (match gB id, Nat.beq xs.length 5 with
    | some (some (.kids l)), true => some (id, .kids l)
    | _, _ => none)
  | _, _ => none
/-- nothing in it leads anywhere. -/
def plainB : Box → Bool
  | .vr xs => xs.all plainA
  | .row _ (.i _) _ => true
  | .row _ .s4 _ => true
  | .row _ .i2 _ => true
  | .row _ _ _ => false
  | .fro _ _ => false
  | .tr _ => true
  | .kids _ => true
  | .rs _ _ _ => true
  | .vq _ _ => true
/-- the boxes without one of them. -/
def hid (id : Nat) (s : Nat) : Option (Option Box) := match Nat.beq id s with | true => some none | false => gB s
/-- the other arguments of such a call; 'true': the rows of one's own among them may be given up. -/
def argsS (id : Nat) (r : List Operand) : Option (List AV × Bxs × Bool) := match argsF g gB r with
  | some (as, bs) => match getB bs id with
    | none => some (as, bs, true)
    | some _ => none
  | none => match args g (hid gB id) r with
    | some as => some (as, [], false)
    | none => none
def plainR : Rt → Bool
  | .one y => plainA y
  | .many ys => ys.all plainA
  | .own _ e _ => plainE e
  | .var _ => false
  | .deep _ _ _ => false
  | .rows _ _ _ => false
def isVq : Box → Bool
  | .vq _ _ => true
  | _ => false
/-- what is given up where such a call leads to what is its own. -/
def outS (b' : Box) (rt : Rt) (bs : Bxs) (pl : Bool) : Option Bxs := match isVq b' with
  | true => none
  | false => match plainB b', plainR rt with
    | true, true => some []
    | _, _ => match pl with
      | true => some bs
      | false => none
/-- what a call hands back: a solid of one's own, alone or ahead of others. -/
def dpS (d : Nat) (xs : List Value) : Option (List Value) → SV
  | none => .kv d xs
  | some ys => .tkv d xs ys
/-- a solid's own numbers. -/
def solOf : List Value → Option (Bool × S4)
  | [.bool b, .int .i64 x, .int .i64 y, .int .i64 z, .int .i64 u] => some (b, ⟨x, y, z, u⟩)
  | _ => none
def solA : List AV → Option (Bool × S4)
  | [.v (.bool b), .v (.int .i64 x), .v (.int .i64 y), .v (.int .i64 z), .v (.int .i64 u), .sl .tree []] => some (b, ⟨x, y, z, u⟩)
  | [.v (.bool b), .v (.int .i64 x), .v (.int .i64 y), .v (.int .i64 z), .v (.int .i64 u), .v (.slice none 0 0)] => some (b, ⟨x, y, z, u⟩)
  | _ => none
/-- a solid of one's own goes into a variable. -/
def stQ (id off : Nat) (x : Operand) (sz : Option Nat) (len : Nat) : Option (Nat × List Value) := match sv g x, sz, Nat.beq off 0, Nat.beq id XID with
  | .kv kid ys, some n, true, false => match gB kid, Nat.beq n len, Nat.beq len (ys.length + 1), (ys.map AV.v).all flat with
    | some (some (.kids _)), true, true, true => some (kid, ys)
    | _, _, _, _ => none
  | _, _, _, _ => none
/-- a solid that a node may have for itself: one's own, or a leaf. -/
def ndA (x : Operand) : Option (Tree × Option Nat) := match sv g x with
  | .kv id xs => match gB id, solOf xs with
    | some (some (.kids l)), some (b, p) => some (.mk b p l, some id)
    | _, _ => none
  | .p a => match aggA a, solA (cellsA a) with
    | true, some (b, p) => some (.mk b p [], none)
    | _, _ => none
  | _ => none
def plA : SV → Option S4
  | .p a => match aggA a, cellsA a with
    | true, [.v (.int .i64 x), .v (.int .i64 y), .v (.int .i64 z), .v (.int .i64 u)] => some ⟨x, y, z, u⟩
    | _, _ => none
  | _ => none
def ndG : Option Nat → Option Nat → Option Bxs
  | none, none => some []
  | some a, none => some [(a, none)]
  | none, some a => some [(a, none)]
  | some a, some b => match Nat.beq a b with | true => none | false => some [(a, none), (b, none)]
/-- a row of one row of one's own. -/
def bldB (e : El) (ps : List (Nat × Operand)) : Option (Nat × TypeId × List S4) := match e, ps with
  | .rows, [(i, x)] => (match Nat.beq i 0, sv g x with
    | true, .osl id => (match gB id with | some (some (.row te .s4 l)) => some (id, te, l) | _ => none)
    | _, _ => none)
  | _, _ => none
/-- two rows of rows of one's own. -/
def appB (e : El) (x y : Operand) : Option (Nat × Nat × TypeId × TypeId × List (List S4) × List (List S4)) := match e, sv g x, sv g y with
  | .rows, .osl id, .osl id' => (match gB id, gB id' with
    | some (some (.rs t te l)), some (some (.rs t' te' l')) => (match Nat.beq t t', Nat.beq te te', Nat.beq id id' with
      | true, true, false => some (id, id', t, te, l, l')
      | _, _, _ => none)
    | _, _ => none)
  | _, _, _ => none
def evOp (o : Oper) (K : Upd → Option ρ) : Option ρ :=
  match o.op with
  | .move x => K ⟨sv g x, []⟩
  | .assign x => K ⟨sv g x, []⟩
  | .pick c a b => match sv g c with
    | .p (.v (.bool t)) => if t = true then K ⟨sv g a, []⟩ else K ⟨sv g b, []⟩
    | _ => none
  | .nilCheck x => match sv g x with
    | .ref id off => K ⟨.ref id off, []⟩
    | .eref id j c => K ⟨.eref id j c, []⟩
    | .pt xs => K ⟨.pt xs, []⟩
    | _ => none
  | .box _ x => match o.dst with
    | some d => match gB d with
      | none => match exF g gB x with
        | some (a, bs) => K ⟨.ref d 0, (d, some (.vr (cellsA a))) :: bs⟩
        | none => none
      | some _ => none
    | none => none
  | .alloc t => match o.dst with
    | some d => match gB d with
      | none => match zeroP cx.P t with
        | some z => K ⟨.ref d 0, [(d, some (.vr (z.cells.toList.map .v)))]⟩
        | none => none
      | some _ => none
    | none => none
  | .load t a => match sv g a with
    | .ref id off => match gB id with
      | some (some (.vr xs)) => match ldv cx t (xs.drop off) with
        | some a => K ⟨.p a, []⟩
        | none => none
      | some (some (.vq kid xs)) => match ldv cx t ((xs.map .v).drop off) with
        | some a => K ⟨.p a, []⟩
        | none => match Nat.beq off 0, agP cx.P t, szP cx.P t with
          | true, some true, some n => (match Nat.beq n (xs.length + 1) with | true => K ⟨.kv kid xs, []⟩ | false => none)
          | _, _, _ => none
      | _ => none
    | .eref id j c => match gB id with
      | some (some (.row _ e l)) => match ldv cx t ((e.cells (l.getD j default)).drop c) with
        | some a => if j < l.length then K ⟨.p a, []⟩ else none
        | none => none
      | _ => none
    | .rix id off n i => match gB id with
      | some (some (.vr xs)) => match agP cx.P t, intsOf ((xs.drop off).take n) with
        | some false, some l => (match Nat.beq l.length n with | true => K ⟨.p (.v (.int .i64 (sel l i))), []⟩ | false => none)
        | _, _ => none
      | _ => none
    | .pt xs => match ldv cx t xs with
      | some a => K ⟨.p a, []⟩
      | none => none
    | _ => none
  | .store t a x => match sv g a with
    | .ref id off => match gB id with
      | some (some (.vr xs)) => match exF g gB x with
        | some (y, bs) => match szP cx.P t with
          | some n => match Nat.beq (cellsA y).length n, Nat.ble (off + n) xs.length, (cellsA y).all flat with
            | true, true, true => K ⟨.dead, (id, some (.vr (splice xs off (cellsA y)))) :: bs⟩
            | _, _, _ => none
          | none => none
        | none => match stQ g gB id off x (szP cx.P t) xs.length with
          | some (kid, ys) => K ⟨.dead, [(id, some (.vq kid ys))]⟩
          | none => none
      | some (some (.vq _ xs)) => match stQ g gB id off x (szP cx.P t) (xs.length + 1) with
        | some (kid, ys) => K ⟨.dead, [(id, some (.vq kid ys))]⟩
        | none => none
      | _ => none
    | .eref id j c => match gB id with
      | some (some (.row tt e l)) => match exF g gB x with
        | some (y, bs) => match szP cx.P t with
          | some n => match Nat.beq (cellsA y).length n, Nat.ble (c + n) e.z, (cellsA y).all flat with
            | true, true, true => match e.dec (splice (e.cells (l.getD j default)) c (cellsA y)), getB bs id with
              | some u, none => if j < l.length then K ⟨.dead, (id, some (.row tt e (l.set j u))) :: bs⟩ else none
              | _, _ => none
            | _, _, _ => none
          | none => none
        | none => none
      | _ => none
    | _ => none
  | .fieldAddr s x f => match fld cx.P s f with
    | some (k, _) => match sv g x with
      | .ref id off => K ⟨.ref id (off + k), []⟩
      | .eref id j c => K ⟨.eref id j (c + k), []⟩
      | .pt xs => K ⟨.pt (xs.drop k), []⟩
      | _ => none
    | none => none
  | .field s x f => match fld cx.P s f with
    | some (k, t) => match sv g x with
      | .p a => match aggA a, ldv cx t ((cellsA a).drop k) with
        | true, some y => K ⟨.p y, []⟩
        | _, _ => none
      | _ => none
    | none => none
  | .indexAddr t x io => match sv g io with
    | .p (.v (.int _ i)) => match cx.P.underlying t with
      | some (.slice el) => match sv g x with
        | .p (.sl e l) => match szP cx.P el with
          | some z => match Nat.beq z e.z with
            | true => if 0 ≤ i then (if i < (l.length : Int) then K ⟨.pt (e.cells (l.getD i.toNat default)), []⟩ else none) else none
            | false => none
          | none => none
        | .osl id => match gB id with
          | some (some (.row _ e l)) => match szP cx.P el with
            | some z => match Nat.beq z e.z with
              | true => if 0 ≤ i then (if i < (l.length : Int) then K ⟨.eref id i.toNat 0, []⟩ else none) else none
              | false => none
            | none => none
          | some (some (.fro e l)) => match szP cx.P el with
            | some z => match Nat.beq z e.z with
              | true => if 0 ≤ i then (if i < (l.length : Int) then K ⟨.pt (e.cells (l.getD i.toNat default)), []⟩ else none) else none
              | false => none
            | none => none
          | _ => none
        | _ => none
      | some (.array n el) => match sv g x with
        | .ref id off => match szP cx.P el with
          | some (z + 1) => match isC io with
            | true => byIx i (fun c => K ⟨.ref id (off + c * (z + 1)), []⟩) n 0
            | false => match Nat.beq z 0 with
              | true => if 0 ≤ i then (if i < (n : Int) then K ⟨.rix id off n i, []⟩ else none) else none
              | false => none
          | _ => none
        | .eref id j c0 => match szP cx.P el with
          | some z => byIx i (fun c => K ⟨.eref id j (c0 + c * z), []⟩) n 0
          | none => none
        | .pt xs => match szP cx.P el with
          | some z => byIx i (fun c => K ⟨.pt (xs.drop (c * z)), []⟩) n 0
          | none => none
        | _ => none
      | _ => none
    | _ => none
  | .index t x io => match sv g io with
    | .p (.v (.int _ i)) => match cx.P.underlying t with
      | some (.array n el) => match sv g x with
        | .p a => match aggA a, szP cx.P el with
          | true, some z => match isC io with
            | true => byIx i (fun c => match ldv cx el ((cellsA a).drop (c * z)) with | some y => K ⟨.p y, []⟩ | none => none) n 0
            | false => match Nat.beq z 1, agP cx.P el, intsOf (cellsA a) with
              | true, some false, some l => (match Nat.beq l.length n with | true => (if 0 ≤ i then (if i < (n : Int) then K ⟨.p (.v (.int .i64 (sel l i))), []⟩ else none) else none) | false => none)
              | _, _, _ => none
          | _, _ => none
        | _ => none
      | _ => none
    | _ => none
  | .build t ps => match zeroP cx.P t with
    | some z => match parts g gB ps.toList with
      | some (l, bs) => match bplace cx.P t with
        | some place => match fillA place (z.cells.toList.map .v) l with
          | some cs => K ⟨.p (mk cs), bs⟩
          | none => none
        | none => none
      | none => none
    | none => none
  | .buildSlice t len ps => match o.dst with
    | some d => match gB d with
      | none => match cx.P.underlying t with
        | some (.slice el) => match elI cx.P el with
          | some e => match Nat.beq ps.toList.length len, Nat.ble len 100 with
            | true, true => match bldB g gB e ps.toList with
              | some (id, te, l) => K ⟨.osl d, [(d, some (.rs el te [l])), (id, none)]⟩
              | none => match parts g gB ps.toList with
                | some (l, bs) => match lits e 0 l with
                  | some xs => K ⟨.osl d, (d, some (.row el e xs)) :: bs⟩
                  | none => none
                | none => none
            | _, _ => none
          | none => none
        | _ => none
      | some _ => none
    | none => none
  | .makeSlice t n0 n' => match o.dst with
    | some d => match gB d with
      | none => match sv g n0 with
        | .p (.v (.int k n)) => match sameOpd n0 n' with | false => none | true => match cx.P.underlying t with
          | some (.slice el) => match elI cx.P el with
            | some e => match zeroP cx.P el with
              | some z => match zok z with
                | true => if 0 ≤ n then (if lt47 n.toNat = true then K ⟨.osl d, [(d, some (.row el e (List.replicate n.toNat default)))]⟩ else none) else none
                | false => none
              | none => none
            | none => none
          | _ => none
        | _ => none
      | some _ => none
    | none => none
  | .slice t x lo hi mx => match mx with
    | some _ => none
    | none => match cx.P.underlying t with
      | some (.slice el) => match exF g gB x with
        | some (.sl e l, bs) => match szP cx.P el with
          | some z => match Nat.beq z e.z with
            | true => match lo, hi with
              | none, some h => match iN (exA g gB h) with
                | some h => if 0 ≤ h then (if h ≤ (l.length : Int) then K ⟨.p (.sl e (l.take h.toNat)), bs⟩ else none) else none
                | none => none
              | some a, none => match iN (exA g gB a) with
                | some a => if 0 ≤ a then (if a ≤ (l.length : Int) then K ⟨.p (.sl e (l.drop a.toNat)), bs⟩ else none) else none
                | none => none
              | _, _ => none
            | false => none
          | none => none
        | _ => none
      | _ => none
  | .extract x i => match sv g x with
    | .tup xs => match xs[i]? with | some a => K ⟨.p a, []⟩ | none => none
    | .tkv kid xs ys => match i with
      | 0 => K ⟨.kv kid xs, []⟩
      | j + 1 => match ys[j]? with | some y => K ⟨.p (.v y), []⟩ | none => none
    | _ => none
  | .binOp .quo _ x y _ => match sv g x, sv g y with
    | .p (.v (.int .i64 a)), .p (.v (.int .i64 b)) => if b = 0 then none else K ⟨.p (.v (.int .i64 (IntKind.i64.wrap (a.tdiv b)))), []⟩
    | .p (.v (.int .u64 a)), .p (.v (.int .u64 b)) => if b = 0 then none else K ⟨.p (.v (.int .u64 (IntKind.u64.wrap (a.tdiv b)))), []⟩
    | _, _ => none
  | .binOp .rem _ x y _ => match sv g x, sv g y with
    | .p (.v (.int .i64 a)), .p (.v (.int .i64 b)) => if b = 0 then none else K ⟨.p (.v (.int .i64 (a.tmod b))), []⟩
    | .p (.v (.int .u64 a)), .p (.v (.int .u64 b)) => if b = 0 then none else K ⟨.p (.v (.int .u64 (a.tmod b))), []⟩
    | _, _ => none
  | .binOp .eql t x y _ => match sv g x, sv g y with
    | .p (.v (.agg xs)), .p (.v (.agg ys)) => match eqT cx.P t xs.toList, eqL xs.toList ys.toList with
      | true, some q => K ⟨.p (.v (.bool q)), []⟩
      | _, _ => none
    | .osl id, .p (.v (.slice none 0 0)) => match cx.P.underlying t, gB id with
      | some (.slice _), some (some (.row _ _ l)) => if l.isEmpty = true then none else K ⟨.p (.v (.bool false)), []⟩
      | _, _ => none
    | _, _ => evPure cx g o K
  | .binOp .neq t x y _ => match sv g x, sv g y with
    | .p (.v (.agg xs)), .p (.v (.agg ys)) => match eqT cx.P t xs.toList, eqL xs.toList ys.toList with
      | true, some q => K ⟨.p (.v (.bool (!q))), []⟩
      | _, _ => none
    | .osl id, .p (.v (.slice none 0 0)) => match cx.P.underlying t, gB id with
      | some (.slice _), some (some (.row _ _ l)) => if l.isEmpty = true then none else K ⟨.p (.v (.bool true)), []⟩
      | _, _ => none
    | _, _ => evPure cx g o K
  | .call c => match c.callee with
    | .builtin .len => match c.args.toList with
      | [x] => match sv g x with
        | .p (.sl e l) => (match c.argTypes[0]? with | some t => (match cx.P.underlying t with | some (.slice _) => K ⟨.p (.v (.int .i64 l.length)), []⟩ | _ => none) | none => none)
        | .osl id => match gB id with
          | some (some (.row _ e l)) => (match c.argTypes[0]? with | some t => (match cx.P.underlying t with | some (.slice _) => K ⟨.p (.v (.int .i64 l.length)), []⟩ | _ => none) | none => none)
          | some (some (.fro e l)) => (match c.argTypes[0]? with | some t => (match cx.P.underlying t with | some (.slice _) => K ⟨.p (.v (.int .i64 l.length)), []⟩ | _ => none) | none => none)
          | _ => none
        | _ => evPure cx g o K
      | _ => none
    | .builtin .append => match o.dst with
      | some d => match gB d with
        | none => match c.args.toList, c.argTypes.toList with
          | [x, y], [t, t'] => match Nat.beq t t', cx.P.underlying t with
            | true, some (.slice el) => match elI cx.P el with
              | some e => match appB g gB e x y with
               | some (id, id', t1, te, l, l') => (match Nat.beq t1 el with
                 | true => (if lt47 (l.length + l'.length) = true then K ⟨.osl d, [(d, some (.rs el te (l ++ l'))), (id, none), (id', none)]⟩ else none)
                 | false => none)
               | none => match exN g gB y with
                | some (.sl e' m) => if h : e' = e then (match sv g x with
                  | .osl id => match gB id with
                    | some (some (.row t'' e'' l)) => if h' : e'' = e then (match Nat.beq t'' el with | true => (if lt47 (l.length + m.length) = true then K ⟨.osl d, [(d, some (.row el e (h' ▸ l ++ h ▸ m))), (id, none)]⟩ else none) | false => none) else none
                    | _ => none
                  | .p (.v (.slice none 0 0)) => if lt47 m.length = true then K ⟨.osl d, [(d, some (.row el e (h ▸ m)))]⟩ else none
                  | _ => none) else none
                | _ => none
              | none => none
            | _, _ => none
          | _, _ => none
        | some _ => none
      | none => none
    | .value (.func f) => match cx.rrf f with
     | true => match c.args.toList with
       | [x] => match sv g x with
         | .osl id => match gB id with
           | some (some (.row t e l)) => match o.dst with
             | some d => match gB d with
               | none => cx.callR f (.row t e l) fun b' => K ⟨.osl d, [(d, some b'), (id, none)]⟩
               | some _ => none
             | none => none
           | _ => none
         | _ => none
       | _ => none
     | false => match cx.stf f with
     | some k => match c.args.toList with
       | x :: r => match stA g gB k x with
         | some (id, b) => match argsS g gB id r with
           | some (as, bs, pl) => cx.callS f b as fun b' rt => match outS b' rt bs pl with
             | some bs => match rt with
               | .one y => K ⟨.p y, (id, some b') :: bs⟩
               | .many ys => K ⟨.tup ys, (id, some b') :: bs⟩
               | .own t e l => match o.dst with
                 | some d => match gB d with
                   | none => match getB ((id, some b') :: bs) d with
                     | none => K ⟨.osl d, (d, some (.row t e l)) :: (id, some b') :: bs⟩
                     | some _ => none
                   | some _ => none
                 | none => none
               | .var _ => none
               | .deep _ _ _ => none
               | .rows _ _ _ => none
             | none => none
           | none => none
         | none => none
       | [] => none
     | none => match cx.ndf f with
      | true => match c.args.toList, o.dst with
        | [x, y, z], some d => match gB d, plA (sv g x), ndA g gB y, ndA g gB z with
          | none, some p, some (t1, i1), some (t2, i2) => match ndG i1 i2 with
            | some gs => K ⟨.kv d [.bool false, .int .i64 p.a, .int .i64 p.b, .int .i64 p.c, .int .i64 p.d], (d, some (.kids [t1, t2])) :: gs⟩
            | none => none
          | _, _, _, _ => none
        | _, _ => none
      | false => match argsF g gB c.args.toList with
      | some (as, bs) => cx.call f as fun
        | .one a => match plainA a with
          | true => K ⟨.p a, []⟩
          | false => K ⟨.p a, bs⟩
        | .many xs => match xs.all plainA with
          | true => K ⟨.tup xs, []⟩
          | false => K ⟨.tup xs, bs⟩
        | .own t e l => match o.dst with
          | some d => match gB d, plainE e with
            | none, true => K ⟨.osl d, [(d, some (.row t e l))]⟩
            | none, false => K ⟨.osl d, (d, some (.row t e l)) :: bs⟩
            | some _, _ => none
          | none => none
        | .var xs => match o.dst with
          | some d => match gB d with
            | none => K ⟨.ref d 0, (d, some (.vr xs)) :: bs⟩
            | some _ => none
          | none => none
        | .deep xs ys l => match o.dst with
          | some d => match gB d with
            | none => K ⟨dpS d xs ys, [(d, some (.kids l))]⟩
            | some _ => none
          | none => none
        | .rows t te l => match o.dst with
          | some d => match gB d with
            | none => K ⟨.osl d, [(d, some (.rs t te l))]⟩
            | some _ => none
          | none => none
      | none => match args g gB c.args.toList with
        | some as => cx.call f as fun
          | .one a => match plainA a with
            | true => K ⟨.p a, []⟩
            | false => none
          | .many xs => match xs.all plainA with
            | true => K ⟨.tup xs, []⟩
            | false => none
          | .own t e l => match o.dst with
            | some d => match gB d, plainE e with
              | none, true => K ⟨.osl d, [(d, some (.row t e l))]⟩
              | _, _ => none
            | none => none
          | .var _ => none
          | .deep xs ys l => match o.dst with
            | some d => match gB d with
              | none => K ⟨dpS d xs ys, [(d, some (.kids l))]⟩
              | some _ => none
            | none => none
          | .rows t te l => match o.dst with
            | some d => match gB d with
              | none => K ⟨.osl d, [(d, some (.rs t te l))]⟩
              | some _ => none
            | none => none
        | none => none
    | .value (.tmp t) => match fnv (sv g (.tmp t)) with
      | some f => match cx.stf f, argsF g gB c.args.toList with
        | none, some (as, bs) => cx.call f as fun
          | .one a => match plainA a with
            | true => K ⟨.p a, []⟩
            | false => none
          | _ => none
        | _, _ => none
      | none => none
    | _ => evPure cx g o K
  | _ => evPure cx g o K
end

/-! ### the state -/
def upd (g : Nat → SV) (d : Option Nat) (v : SV) (s : Nat) : SV := match d with
  | some d => (match Nat.beq d s with | true => v | false => g s)
  | none => g s
def updB (gB : Nat → Option (Option Box)) (bs : Bxs) (s : Nat) : Option (Option Box) := match getB bs s with
  | some r => some r
  | none => gB s

theorem beq_iff {a b : Nat} : Nat.beq a b = true ↔ a = b := Nat.beq_eq ▸ Iff.rfl

/-- the world when the call began, and which of its blocks are the call's own while it runs. -/
structure Base where
  w : World
  ex : Nat → Prop
  A : Nat → Prop
  β0 : Option Blk := none
def Base.heap (b : Base) : Array Obj := b.w.heap
structure BelowX (B : Base) (w' : World) : Prop where
  os : w'.os = B.w.os
  tape : w'.tape = B.w.tape
  output : w'.output = B.w.output
  size : B.heap.size ≤ w'.heap.size
  block : ∀ k, k < B.heap.size → ¬ B.ex k → w'.heap[k]? = B.w.heap[k]?
  drawn : B.w.drawn ≤ w'.drawn
/-- what was there is as it was; draws may have come. -/
structure BelowD (w w' : World) : Prop extends Below w.heap.size w w' where
  drawn : w.drawn ≤ w'.drawn

structure R0 (w0 : Base) (N : Nat) (g : Nat → SV) (gB : Nat → Option (Option Box)) (a : Act) (w : World) (ro : Nat → Prop) (β : Nat → Option Blk) : Prop where
  below : BelowX w0 w
  slots : ∀ s, RepS w ro β (a.tmps.getD s undef) (g s)
  box : ∀ id x, gB id = some (some x) → ∃ k, β id = some k ∧ BoxRep w ro 0 k x ∧ ∀ b, owns x.kind k b → (w0.heap.size ≤ b ∨ w0.ex b) ∧ ¬ ro b
  inj : ∀ id id' x x' b k k', gB id = some (some x) → gB id' = some (some x') → β id = some k → β id' = some k' → owns x.kind k b → owns x'.kind k' b → id = id'
  free : ∀ id, gB id = none → β id = none
  roUp : ∀ b, ro b → w0.A b ∨ w0.heap.size ≤ b ∨ w0.ex b
  roLt : ∀ b, ro b → b < w.heap.size
  βLt : ∀ id k b q, β id = some k → owns q k b → b < w.heap.size
  defers : a.defers = []
  size : a.tmps.size = N
  fix : ∀ k, w0.β0 = some k → N ≤ XID ∧ ∀ x, gB XID = some (some x) → β XID = some k
  lnk : ∀ id kid xs, gB id = some (some (.vq kid xs)) → ∃ k k', β id = some k ∧ β kid = some k' ∧ k.lk = k'.v

def R (w0 : Base) (N : Nat) (g : Nat → SV) (gB : Nat → Option (Option Box)) (a : Act) (w : World) : Prop := ∃ ro β, R0 w0 N g gB a w ro β

theorem RepS.mono {w w' : World} {ro ro' : Nat → Prop} {β β' : Nat → Option Blk} (hro : ∀ b, ro b → ro' b) (hw : ∀ b, ro b → w'.heap[b]? = w.heap[b]?) (hβ : ∀ id k, β id = some k → β' id = some k) {x : Value} {s : SV} (h : RepS w ro β x s) : RepS w' ro' β' x s := by
  cases s with
  | p a => exact Rep.mono hro hw h
  | tup xs => obtain ⟨vs, e, hn, h⟩ := h; exact ⟨vs, e, hn, fun i v y h1 h2 => (h i v y h1 h2).mono hro hw⟩
  | osl id => obtain ⟨k, h1, h2⟩ := h; exact ⟨k, hβ _ _ h1, h2⟩
  | ref id off => obtain ⟨k, b, h1, h2⟩ := h; exact ⟨k, b, hβ _ _ h1, h2⟩
  | eref id j c => obtain ⟨k, b, h1, h2⟩ := h; exact ⟨k, b, hβ _ _ h1, h2⟩
  | rix id off n i => obtain ⟨k, b, h1, h2⟩ := h; exact ⟨k, b, hβ _ _ h1, h2⟩
  | pt xs =>
    obtain ⟨a, e, hs, hr, h⟩ := h
    refine ⟨a, e, hs, hro _ hr, fun i y hy => ?_⟩
    obtain ⟨v, h1, h2⟩ := h i y hy
    refine ⟨v, ?_, h2.mono hro hw⟩
    rw [← h1]; unfold World.cell?; rw [hw _ hr]
  | kv id xs => obtain ⟨k, h1, h2⟩ := h; exact ⟨k, hβ _ _ h1, h2⟩
  | tkv id xs ys => obtain ⟨k, h1, h2⟩ := h; exact ⟨k, hβ _ _ h1, h2⟩
  | dead => trivial

theorem R0.put {w0 : Base} {N : Nat} {g : Nat → SV} {gB : Nat → Option (Option Box)} {a : Act} {w : World} {ro : Nat → Prop} {β : Nat → Option Blk} (h : R0 w0 N g gB a w ro β) {d : Option Nat} (hd : ∀ x, d = some x → x < N) {v : Value} {s : SV} (hv : RepS w ro β v s) : R0 w0 N (upd g d s) gB (a.put d v) w ro β := by
  cases d with
  | none => exact { h with slots := h.slots }
  | some d =>
    have hd' := hd d rfl
    refine { h with slots := fun t => ?_, defers := h.defers, size := by simp [Act.put, h.size] }
    simp only [upd, Act.put]
    by_cases e : d = t
    · subst e
      rw [show Nat.beq d d = true from beq_iff.2 rfl]
      simp [Array.getElem?_setIfInBounds, h.size, hd', hv]
    · rw [show Nat.beq d t = false from by cases hb : Nat.beq d t <;> simp_all [beq_iff]]
      have := h.slots t
      simp only [Array.getD_eq_getD_getElem?, Array.getElem?_setIfInBounds, if_neg e] at this ⊢
      exact this

theorem own_of (v : Value) (w w' : World) (base e sz n : Nat) (xs : List Value) (h : ownsW w base e sz v n xs) (hw : ∀ b, v.ownBlock = some b → w'.heap[b]? = w.heap[b]?) : ownsW w' base e sz v n xs := by
  obtain ⟨h1, h2⟩ := h
  refine ⟨h1, h2.imp id ?_⟩
  rintro ⟨g, cap, cur, hv, hb, hg, rest⟩
  refine ⟨g, cap, cur, hv, hb, ?_, rest⟩
  rw [hw g (by rw [hv]; rfl)]; exact hg

theorem cell_same {w w' : World} {b off : Nat} (h : w'.heap[b]? = w.heap[b]?) : w'.cell? ⟨b, off, none⟩ = w.cell? ⟨b, off, none⟩ := by
  unfold World.cell?; rw [h]
theorem mem_fps {n : Nat} {fps : Nat → List Nat} {j x : Nat} (hj : j < n) (hx : x ∈ fps j) : x ∈ (List.range n).flatMap fps := List.mem_flatMap.2 ⟨j, List.mem_range.2 hj, hx⟩
theorem OwnK.mono {w w' : World} {fp : List Nat} {v : Value} {l : List Tree} (h : OwnK w fp v l) : (∀ b ∈ fp, w'.heap[b]? = w.heap[b]?) → OwnK w' fp v l := by
  induction h with
  | nil A cap h => intro _; exact .nil A cap h
  | cons b cap l fps kv cur tt hn hcap hm hz hh hc hk h ih =>
    intro hw
    exact .cons b cap l fps kv cur tt hn hcap hm hz ((hw b List.mem_cons_self).trans hh) hc hk (fun j hj => ih j hj fun x hx => hw x (List.mem_cons_of_mem _ (mem_fps hj hx)))
theorem OwnK.rep {w : World} {fp : List Nat} {v : Value} {l : List Tree} (h : OwnK w fp v l) {P : Nat → Prop} : (∀ b ∈ fp, P b) → Rep w P v (.sl .tree l) := by
  induction h with
  | nil A cap h => intro _; exact Rep.sl A cap .tree [] (fun _ _ => undef) (Nat.zero_le _) h (fun j hj => absurd hj (Nat.not_lt_zero j)) (fun j c hj => absurd hj (Nat.not_lt_zero j))
  | cons b cap l fps kv cur tt hn hcap hm hz hh hc' hk' h ih =>
    intro hP
    have hcell : ∀ i, w.cell? ⟨b, 0 + i, none⟩ = cur[i]? := fun i => by rw [Nat.zero_add]; simp [World.cell?, hh]
    have hc : ∀ j c v, j < l.length → c < 5 → El.cell .tree (l.getD j default) c = .v v → w.cell? ⟨b, 0 + (j * 6 + c), none⟩ = some v := fun j c v h1 h2 h3 => (hcell _).trans (hc' j c v h1 h2 h3)
    have hk : ∀ j, j < l.length → w.cell? ⟨b, 0 + (j * 6 + 5), none⟩ = some (kv j) := fun j hj => (hcell _).trans (hk' j hj)
    have sc : ∀ (t : Tree) (c : Nat), c < 5 → ∃ v, El.cell .tree t c = .v v := fun t c hc => by
      match c, hc with
      | 0, _ => exact ⟨_, rfl⟩
      | 1, _ => exact ⟨_, rfl⟩
      | 2, _ => exact ⟨_, rfl⟩
      | 3, _ => exact ⟨_, rfl⟩
      | 4, _ => exact ⟨_, rfl⟩
    refine Rep.sl (some ⟨b, 0, none⟩) cap .tree l (fun j c => (w.cell? ⟨b, 0 + (j * 6 + c), none⟩).getD undef) hcap (fun h => by cases h) (fun j hj => ⟨_, rfl, rfl, hP b List.mem_cons_self, fun c hc' => ?_⟩) (fun j c hj hc' => ?_)
    · by_cases h5 : c < 5
      · obtain ⟨v, hv⟩ := sc (l.getD j default) c h5
        show w.cell? ⟨b, 0 + (j * 6 + c), none⟩ = some ((w.cell? ⟨b, 0 + (j * 6 + c), none⟩).getD undef)
        rw [hc j c v hj h5 hv]; rfl
      · have : c = 5 := by have : c < 6 := hc'; omega
        subst this
        show w.cell? ⟨b, 0 + (j * 6 + 5), none⟩ = some ((w.cell? ⟨b, 0 + (j * 6 + 5), none⟩).getD undef)
        rw [hk j hj]; rfl
    · by_cases h5 : c < 5
      · obtain ⟨v, hv⟩ := sc (l.getD j default) c h5
        rw [hc j c v hj h5 hv, hv]; exact .v _
      · have : c = 5 := by have : c < 6 := hc'; omega
        subst this
        rw [hk j hj]
        exact ih j hj fun x hx => hP x (List.mem_cons_of_mem _ (mem_fps hj hx))
theorem mem_own {v : Value} {b : Nat} : b ∈ v.ownBlock.toList ↔ v.ownBlock = some b := by
  cases v.ownBlock <;> simp [eq_comm]
theorem OwnP.mono {te : TypeId} {w w' : World} {fp : List Nat} {v : Value} {l : List S4} (h : OwnP te w fp v l) (hw : ∀ b ∈ fp, w'.heap[b]? = w.heap[b]?) : OwnP te w' fp v l := by
  obtain ⟨xs, h1, rfl, h2⟩ := h
  exact ⟨xs, own_of _ w w' _ _ _ _ _ h1 (fun b hb => hw b (mem_own.2 hb)), rfl, h2⟩
theorem OwnR.mono {t te : TypeId} {w w' : World} {fp : List Nat} {v : Value} {l : List (List S4)} (h : OwnR t te w fp v l) (hw : ∀ b ∈ fp, w'.heap[b]? = w.heap[b]?) : OwnR t te w' fp v l := by
  obtain ⟨xs, fps, h1, rfl, h2⟩ := h
  refine ⟨xs, fps, own_of _ w w' _ _ _ _ _ h1 (fun b hb => hw b (List.mem_append_left _ (mem_own.2 hb))), rfl, fun j hj => ?_⟩
  obtain ⟨u, hu, ho⟩ := h2 j hj
  exact ⟨u, hu, ho.mono fun b hb => hw b (List.mem_append_right _ (mem_fps hj hb))⟩
theorem BoxRep.mono {w w' : World} {ro ro' : Nat → Prop} {base : Nat} {k : Blk} {x : Box} (h : BoxRep w ro base k x) (hro : ∀ b, ro b → ro' b) (hw : ∀ b, ro b → w'.heap[b]? = w.heap[b]?) (ho : ∀ b, owns x.kind k b → w'.heap[b]? = w.heap[b]?) : BoxRep w' ro' base k x := by
  cases x with
  | vr xs =>
    obtain ⟨b, c, t, h1, h2, h3, h4⟩ := h
    refine ⟨b, c, t, h1, (ho b h1).trans h2, h3, fun i y hy => ?_⟩
    obtain ⟨x, hx, hr⟩ := h4 i y hy
    exact ⟨x, hx, hr.mono hro hw⟩
  | row t e l =>
    obtain ⟨h0, h1, h2, h3, xs, h4, h5⟩ := h
    refine ⟨h0, h1, h2, h3, xs, own_of _ w w' _ _ _ _ _ h4 (fun b hb => ho b (h3.trans hb)), fun j c hj hc => ?_⟩
    obtain ⟨x, hx, hr⟩ := h5 j c hj hc
    exact ⟨x, hx, hr.mono hro hw⟩
  | fro e l => exact Rep.mono hro hw h
  | tr t => obtain ⟨kv, h1, h2, h3⟩ := h; exact ⟨kv, h1, h2.mono ho, h3⟩
  | kids l => exact ⟨h.1.mono ho, h.2⟩
  | rs t te l => exact ⟨h.1.mono ho, h.2⟩
  | vq kid xs => obtain ⟨b, c, t, h1, h2, h3⟩ := h; exact ⟨b, c, t, h1, (ho b h1).trans h2, h3⟩

theorem getB_mem {bs : Bxs} {id : Nat} {r : Option Box} (h : (id, r) ∈ bs) : getB bs id ≠ none := by
  induction bs with
  | nil => cases h
  | cons x bs ih =>
    obtain ⟨k, v⟩ := x
    simp only [getB]
    cases hk : Nat.beq k id with
    | true => simp
    | false =>
      rcases List.mem_cons.1 h with e | h'
      · cases e; rw [beq_iff.2 rfl] at hk; cases hk
      · exact ih h'

theorem getB_some {bs : Bxs} {id : Nat} {r : Option Box} (h : getB bs id = some r) : (id, r) ∈ bs := by
  induction bs with
  | nil => cases h
  | cons x bs ih =>
    obtain ⟨k, v⟩ := x
    simp only [getB] at h
    cases hk : Nat.beq k id with
    | true => rw [hk] at h; rw [beq_iff] at hk; cases h; subst hk; exact List.mem_cons_self
    | false => rw [hk] at h; exact List.mem_cons_of_mem _ (ih h)

/-- a box that is given up. -/
def frB : Box → Option Box
  | .row _ e l => some (.fro e l)
  | .kids l => some (.fro .tree l)
  | _ => none
theorem frB_fro {x y : Box} (h : frB x = some y) : ∃ e l, y = .fro e l := by
  cases x <;> simp [frB] at h
  · exact ⟨_, _, h.symm⟩
  · exact ⟨_, _, h.symm⟩
def Frz (gB : Nat → Option (Option Box)) (bs : Bxs) : Prop := ∀ id r, (id, r) ∈ bs → ∃ x y, r = some y ∧ frB x = some y ∧ gB id = some (some x)
def rof (gB : Nat → Option (Option Box)) (ro : Nat → Prop) (β : Nat → Option Blk) (bs : Bxs) (b : Nat) : Prop := ro b ∨ ∃ id k r x, (id, r) ∈ bs ∧ β id = some k ∧ gB id = some (some x) ∧ owns x.kind k b

theorem Frz.nil (gB : Nat → Option (Option Box)) : Frz gB [] := fun _ _ h => by cases h
theorem Frz.app {gB : Nat → Option (Option Box)} {bs bs' : Bxs} (h : Frz gB bs) (h' : Frz gB bs') : Frz gB (bs ++ bs') := fun id r hm => (List.mem_append.1 hm).elim (h id r) (h' id r)

theorem updB_nil (gB : Nat → Option (Option Box)) : updB gB [] = gB := rfl

section
variable {w0 : Base} {N : Nat} {g : Nat → SV} {gB : Nat → Option (Option Box)} {a : Act} {w : World} {ro : Nat → Prop} {β : Nat → Option Blk}

theorem rep_row (hn : ∀ b, ro b → b < w.heap.size) {k : Blk} {e : El} {l : List e.T} {base : Nat} {t : TypeId} (h : BoxRep w ro base k (.row t e l)) {ro' : Nat → Prop} (h1 : ∀ b, ro b → ro' b) (h2 : ∀ b, k.own = some b → ro' b) : Rep w ro' k.v (.sl e l) := by
  obtain ⟨ht, hz, hl, ho, xs, hx, hc⟩ := h
  rcases hx.2 with ⟨hv, hn0⟩ | ⟨gg, cap, cur, hv, hb, hg, hcap, hmax, hsz, htk⟩
  · rw [hv]
    have hl0 : l.length = 0 := by omega
    have := Rep.sl (w := w) (ro := ro') none 0 e l (fun _ _ => undef) (by omega) (fun _ => rfl) (fun j hj => by omega) (fun j c hj => by omega)
    rwa [hl0] at this
  · have hv' := hv
    rw [hv, hl]
    refine Rep.sl (some ⟨gg, 0, none⟩) cap e l (fun j c => xs.getD (j * e.z + c) undef) (by omega) (fun h => by cases h) (fun j hj => ⟨_, rfl, rfl, h2 gg (by rw [ho, hv]; rfl), fun c hc' => ?_⟩) (fun j c hj hc' => ?_)
    · obtain ⟨x, hx', _⟩ := hc j c hj hc'
      have hlt : j * e.z + c < k.n * e.z := by
        rw [hl]
        calc j * e.z + c < j * e.z + e.z := by omega
          _ = (j + 1) * e.z := by rw [Nat.add_mul]; omega
          _ ≤ l.length * e.z := Nat.mul_le_mul_right _ hj
      have := ownsW.cellAt (hv ▸ hx) (j * e.z + c) hlt
      simp only [Nat.zero_add]
      rw [this, hx']; simp [hx']
    · obtain ⟨x, hx', hr⟩ := hc j c hj hc'
      simp only [List.getD_eq_getElem?_getD, hx', Option.getD_some] at hr ⊢
      exact hr.mono h1 (fun _ _ => rfl)

theorem rep_frB (hn : ∀ b, ro b → b < w.heap.size) {k : Blk} {x : Box} {e : El} {l : List e.T} {base : Nat} (h : BoxRep w ro base k x) (hf : frB x = some (.fro e l)) {ro' : Nat → Prop} (h1 : ∀ b, ro b → ro' b) (h2 : ∀ b, owns x.kind k b → ro' b) : Rep w ro' k.v (.sl e l) := by
  cases x <;> simp only [frB, Option.some.injEq, Box.fro.injEq, reduceCtorEq] at hf
  · obtain ⟨rfl, hl⟩ := hf
    cases hl
    exact rep_row hn h h1 h2
  · obtain ⟨rfl, hl⟩ := hf
    cases hl
    exact h.1.rep h2
theorem R0.freeze (h : R0 w0 N g gB a w ro β) {bs : Bxs} (hf : Frz gB bs) : R0 w0 N g (updB gB bs) a w (rof gB ro β bs) β := by
  have cas : ∀ id x, updB gB bs id = some (some x) → (getB bs id = none ∧ gB id = some (some x)) ∨ ∃ x0 e l, x = .fro e l ∧ getB bs id = some (some x) ∧ frB x0 = some x ∧ gB id = some (some x0) := fun id x hx => by
    unfold updB at hx
    cases hb : getB bs id with
    | none => rw [hb] at hx; exact .inl ⟨rfl, hx⟩
    | some r =>
      rw [hb] at hx
      cases hx
      obtain ⟨x0, y, h1, h2, h3⟩ := hf id _ (getB_some hb)
      cases h1
      obtain ⟨e, l, rfl⟩ := frB_fro h2
      exact .inr ⟨x0, e, l, rfl, rfl, h2, h3⟩
  have live : ∀ id x b k, updB gB bs id = some (some x) → owns x.kind k b → getB bs id = none ∧ gB id = some (some x) := fun id x b k hx ho => by
    rcases cas id x hx with h | ⟨t, e, l, rfl, _⟩
    · exact h
    · exact ho.elim
  refine ⟨h.below, fun s => (h.slots s).mono (fun b hb => .inl hb) (fun _ _ => rfl) (fun _ _ h => h), fun id x hx => ?_, fun id id' x x' b k k' h1 h2 e1 e2 o1 o2 => h.inj id id' x x' b k k' (live _ _ _ _ h1 o1).2 (live _ _ _ _ h2 o2).2 e1 e2 o1 o2,
    fun id hid => ?_, fun b hb => ?_, fun b hb => ?_, h.βLt, h.defers, h.size, fun k hk => ⟨(h.fix k hk).1, fun x hx => ?_⟩, fun id kid xs hx => ?_⟩
  · rcases cas id x hx with ⟨h1, h2⟩ | ⟨x0, e, l, rfl, h1, hfb, h2⟩
    · obtain ⟨k, hk, hb, ho⟩ := h.box id x h2
      refine ⟨k, hk, hb.mono (fun b hb => .inl hb) (fun _ _ => rfl) (fun _ _ => rfl), fun b hb' => ⟨(ho b hb').1, ?_⟩⟩
      rintro (hr | ⟨id', k', r, x', hm, hk', hl, ho'⟩)
      · exact (ho b hb').2 hr
      · have := h.inj id id' _ _ b k k' h2 hl hk hk' hb' ho'
        subst this
        exact getB_mem hm h1
    · obtain ⟨k, hk, hb, ho⟩ := h.box id _ h2
      exact ⟨k, hk, rep_frB h.roLt hb hfb (fun b hb => .inl hb) (fun b hb => .inr ⟨id, k, _, x0, getB_some h1, hk, h2, hb⟩), fun b hb' => hb'.elim⟩
  · unfold updB at hid
    cases hb : getB bs id with
    | none => rw [hb] at hid; exact h.free id hid
    | some r => rw [hb] at hid; cases hid
  · rcases hb with hb | ⟨id, k, r, x, hm, hk, hl, ho⟩
    · exact h.roUp b hb
    · obtain ⟨k', hk', _, hh⟩ := h.box id _ hl
      rw [hk] at hk'; cases hk'
      exact .inr (hh b ho).1
  · rcases hb with hb | ⟨id, k, r, x, _, hk, _, ho⟩
    · exact h.roLt b hb
    · exact h.βLt id k b _ hk ho
  · rcases cas XID x hx with ⟨_, h2⟩ | ⟨_, _, _, _, _, _, h2⟩
    · exact (h.fix k hk).2 x h2
    · exact (h.fix k hk).2 _ h2
  · rcases cas id _ hx with ⟨_, h2⟩ | ⟨_, _, _, h2, _⟩
    · exact h.lnk id kid xs h2
    · cases h2

theorem R0.sv (h : R0 w0 N g gB a w ro β) (x : Operand) : RepS w ro β (a.eval x) (sv g x) := by
  cases x with
  | tmp t => exact h.slots t
  | const v => exact Rep.v v
  | func f => exact Rep.v _
  | global n => trivial

theorem R0.exF (h : R0 w0 N g gB a w ro β) {x : Operand} {y : AV} {bs : Bxs} (he : exF g gB x = some (y, bs)) : Frz gB bs ∧ Rep w (rof gB ro β bs) (a.eval x) y := by
  have hs := h.sv x
  unfold Ev.exF at he
  split at he
  · rename_i aa hh
    cases he; rw [hh] at hs
    exact ⟨.nil _, Rep.mono (fun b hb => .inl hb) (fun _ _ => rfl) (show Rep w ro (a.eval x) y from hs)⟩
  · rename_i id hh
    rw [hh] at hs
    split at he
    · rename_i tt e l hb
      cases he
      obtain ⟨k, hk, hrep, _⟩ := h.box id _ hb
      obtain ⟨k', hk', hv⟩ := hs
      rw [hk] at hk'; cases hk'
      refine ⟨fun id' r hm => ?_, ?_⟩
      · simp at hm; obtain ⟨rfl, rfl⟩ := hm; exact ⟨_, _, rfl, rfl, hb⟩
      · rw [hv]; exact rep_row h.roLt hrep (fun b hb => .inl hb) (fun b hb' => .inr ⟨id, k, some (.fro e l), _, by simp, hk, hb, hb'⟩)
    · rename_i e l hb
      cases he
      obtain ⟨k, hk, hrep, _⟩ := h.box id _ hb
      obtain ⟨k', hk', hv⟩ := hs
      rw [hk] at hk'; cases hk'
      rw [hv]
      exact ⟨.nil _, Rep.mono (fun b hb => .inl hb) (fun _ _ => rfl) (show Rep w ro k.v (.sl e l) from hrep)⟩
    · cases he
  · cases he

theorem OwnP.box {te : TypeId} {w : World} {fp : List Nat} {v : Value} {l : List S4} (h : OwnP te w fp v l) {ro : Nat → Prop} : BoxRep w ro 0 { v := v, own := v.ownBlock, t := te, z := 4, n := l.length } (.row te .s4 l) := by
  obtain ⟨xs, h1, _, h2⟩ := h
  refine ⟨rfl, rfl, rfl, rfl, xs, h1, fun j c hj hc => ?_⟩
  obtain ⟨x, hx, e⟩ := h2 j c hj hc
  exact ⟨x, hx, by rw [e]; exact .v _⟩
theorem OwnR.rep {t te : TypeId} {w : World} {fp : List Nat} {v : Value} {l : List (List S4)} (h : OwnR t te w fp v l) {P : Nat → Prop} (hP : ∀ b ∈ fp, P b) : Rep w P v (.sl .rows l) := by
  obtain ⟨xs, fps, h1, rfl, h2⟩ := h
  have hb : BoxRep w (fun b => P b ∧ b < w.heap.size) 0 { v := v, own := v.ownBlock, t := t, z := 1, n := l.length } (.row t .rows l) := by
    refine ⟨rfl, rfl, rfl, rfl, xs, h1, fun j c hj hc => ?_⟩
    obtain ⟨u, hu, ho⟩ := h2 j hj
    have hc0 : c = 0 := by have : c < 1 := hc; omega
    subst hc0
    refine ⟨u, by show xs[j * 1 + 0]? = some u; rw [Nat.mul_one]; exact hu, ?_⟩
    have hfp := ho
    obtain ⟨ys, q1, q2, _⟩ := hfp
    exact rep_row (ro := fun _ => False) (fun _ h => h.elim) ho.box (fun _ h => h.elim) fun b hb => ⟨hP b (List.mem_append_right _ (mem_fps hj (by rw [q2]; exact mem_own.2 hb))), (q1.lt b hb).2⟩
  exact rep_row (ro := fun b => P b ∧ b < w.heap.size) (fun _ h => h.2) hb (fun b h => h.1) fun b hb => hP b (List.mem_append_left _ (mem_own.2 hb))
/-- the blocks that are read only, or one's own. -/
def seen (gB : Nat → Option (Option Box)) (ro : Nat → Prop) (β : Nat → Option Blk) (b : Nat) : Prop := ro b ∨ ∃ id x k, gB id = some (some x) ∧ β id = some k ∧ owns x.kind k b
theorem R0.exA (h : R0 w0 N g gB a w ro β) {x : Operand} {y : AV} (he : exA g gB x = some y) : Rep w (seen gB ro β) (a.eval x) y := by
  have hs := h.sv x
  unfold Ev.exA at he
  split at he
  · rename_i aa hh
    cases he; rw [hh] at hs
    exact Rep.mono (fun b hb => .inl hb) (fun _ _ => rfl) (show Rep w ro (a.eval x) y from hs)
  · rename_i id hh
    rw [hh] at hs
    split at he
    · rename_i tt e l hb
      cases he
      obtain ⟨k, hk, hrep, _⟩ := h.box id _ hb
      obtain ⟨k', hk', hv⟩ := hs
      rw [hk] at hk'; cases hk'
      rw [hv]; exact rep_row h.roLt hrep (fun b hb => .inl hb) (fun b hb' => .inr ⟨id, .row tt e l, k, hb, hk, hb'⟩)
    · rename_i e l hb
      cases he
      obtain ⟨k, hk, hrep, _⟩ := h.box id _ hb
      obtain ⟨k', hk', hv⟩ := hs
      rw [hk] at hk'; cases hk'
      rw [hv]
      exact Rep.mono (fun b hb => .inl hb) (fun _ _ => rfl) (show Rep w ro k.v (.sl e l) from hrep)
    · rename_i l hb
      cases he
      obtain ⟨k, hk, hrep, _⟩ := h.box id _ hb
      obtain ⟨k', hk', hv⟩ := hs
      rw [hk] at hk'; cases hk'
      rw [hv]
      exact hrep.1.rep fun b hb' => .inr ⟨id, .kids l, k, hb, hk, hb'⟩
    · rename_i t te l hb
      cases he
      obtain ⟨k, hk, hrep, _⟩ := h.box id _ hb
      obtain ⟨k', hk', hv⟩ := hs
      rw [hk] at hk'; cases hk'
      rw [hv]
      exact hrep.1.rep fun b hb' => .inr ⟨id, .rs t te l, k, hb, hk, hb'⟩
    · cases he
  · rename_i id xs hh
    rw [hh] at hs
    split at he
    · rename_i l hb
      cases he
      obtain ⟨k, hk, hrep, _⟩ := h.box id _ hb
      obtain ⟨k', hk', hv⟩ := hs
      rw [hk] at hk'; cases hk'
      rw [hv]
      have hkids : Rep w (seen gB ro β) k.v (.sl .tree l) := hrep.1.rep fun b hb' => .inr ⟨id, .kids l, k, hb, hk, hb'⟩
      refine .agg _ _ (by simp) fun i x y hx hy => ?_
      by_cases hi : i < xs.length
      · rw [List.getElem?_toArray, List.getElem?_append_left hi] at hx
        rw [List.getElem?_append_left (by simpa using hi), List.getElem?_map, hx] at hy
        cases hy; exact .v _
      · rw [List.getElem?_toArray, List.getElem?_append_right (by omega)] at hx
        rw [List.getElem?_append_right (by simp; omega), List.length_map] at hy
        generalize i - xs.length = j at hx hy
        cases j with
        | zero => simp at hx hy; subst hx hy; exact hkids
        | succ j => simp at hx
    · cases he
  · rename_i xs hh
    cases he; rw [hh] at hs
    obtain ⟨ad, hv, hsp, hr, hc⟩ := hs
    rw [hv]
    refine .pt ad xs (fun i => (w.cell? ⟨ad.block, ad.off + i, none⟩).getD undef) hsp (.inl hr) (fun i hi => ?_) (fun i y hy => ?_)
    · obtain ⟨v, h1, _⟩ := hc i _ (List.getElem?_eq_getElem hi)
      rw [h1]; rfl
    · obtain ⟨v, h1, h2⟩ := hc i y hy
      rw [h1]; exact h2.mono (fun b hb => .inl hb) (fun _ _ => rfl)
  · rename_i id off hh
    rw [hh] at hs
    split at he
    · rename_i xs hb
      cases he
      obtain ⟨k, b, hk, hbk, hv⟩ := hs
      obtain ⟨k', hk', hrep, _⟩ := h.box id _ hb
      rw [hk] at hk'; cases hk'
      obtain ⟨b', c, t, hb', hheap, hsz, hcells⟩ := hrep
      rw [hbk] at hb'; cases hb'
      rw [hv]
      have key : ∀ (i : Nat) (y : AV), (xs.drop off)[i]? = some y → ∃ v, w.cell? ⟨b, off + i, none⟩ = some v ∧ Rep w ro v y := fun i y hy => by
        rw [List.getElem?_drop] at hy
        obtain ⟨z, hz, hrz⟩ := hcells _ _ hy
        exact ⟨z, by simp [World.cell?, hheap, hz], hrz⟩
      refine .pt ⟨b, off, none⟩ _ (fun i => (w.cell? ⟨b, off + i, none⟩).getD undef) rfl (.inr ⟨id, .vr xs, k, hb, hk, hbk⟩) (fun i hi => ?_) (fun i y hy => ?_)
      · obtain ⟨v, h1, _⟩ := key i _ (List.getElem?_eq_getElem hi)
        rw [h1]; rfl
      · obtain ⟨v, h1, h2⟩ := key i y hy
        rw [h1]; exact h2.mono (fun b hb => .inl hb) (fun _ _ => rfl)
    · cases he
  · cases he
end

end Go.Proofs.YtalkkenkeilmpaaGreat.Ev
