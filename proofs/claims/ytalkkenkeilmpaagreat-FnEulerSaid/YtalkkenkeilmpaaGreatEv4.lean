/- What the evaluator tells of one operation is what the model does: operations that lay or write memory, and calls. -/
import Derived.Test.YtalkkenkeilmpaaGreatEv3
namespace Go.Proofs.YtalkkenkeilmpaaGreat.Ev
open Go Go.RowKit
set_option linter.unusedVariables false
set_option linter.unusedSimpArgs false

def setβ (β : Nat → Option Blk) (d : Nat) (k : Blk) (s : Nat) : Option Blk := if s = d then some k else β s

theorem updB_one {gB : Nat → Option (Option Box)} {d : Nat} {x : Option Box} (s : Nat) : updB gB [(d, x)] s = if s = d then some x else gB s := by
  unfold updB
  simp only [getB]
  by_cases h : s = d
  · subst h; rw [beq_iff.2 rfl]; simp
  · rw [show Nat.beq d s = false from by cases hb : Nat.beq d s <;> simp_all [beq_iff]]
    simp [h]

theorem updB_cons (gB : Nat → Option (Option Box)) (d : Nat) (x : Option Box) (bs : Bxs) : updB gB ((d, x) :: bs) = updB (updB gB bs) [(d, x)] := by
  funext s
  unfold updB
  simp only [getB]
  cases Nat.beq d s <;> rfl

section
variable {w0 : Base} {N : Nat} {g : Nat → SV} {gB : Nat → Option (Option Box)} {a : Act} {w : World} {ro : Nat → Prop} {β : Nat → Option Blk}

/-- what is given up. -/
def gone (gB : Nat → Option (Option Box)) (β : Nat → Option Blk) (gs : Bxs) (b : Nat) : Prop := ∃ id k y, (id, (none : Option Box)) ∈ gs ∧ gB id = some (some y) ∧ β id = some k ∧ owns y.kind k b
/-- a new block of one's own (or one that a block of one's own, which is given up, has become). -/
theorem R0.grow (h : R0 w0 N g gB a w ro β) {d : Nat} {x : Box} {k : Blk} {w' : World} {ro' : Nat → Prop} {row : Option Nat} {gs : Bxs} (hd : gB d = none) (hdN : d < N ∨ XID < d)
    (hgs : ∀ id r, (id, r) ∈ gs → r = none ∧ ∃ y, gB id = some (some y))
    (hg : w.grownBy w' row) (hdr : w.drawn ≤ w'.drawn) (hrow : ∀ b, row = some b → gone gB β gs b)
    (hro : ∀ b, ro b → ro' b) (hro' : ∀ b, ro' b → ro b ∨ (w.heap.size ≤ b ∧ b < w'.heap.size ∧ ¬ owns x.kind k b))
    (hk : BoxRep w' ro' 0 k x) (hown : ∀ b, owns x.kind k b → (w.heap.size ≤ b ∧ b < w'.heap.size) ∨ gone gB β gs b) (hall : ∀ b q, owns q k b → b < w'.heap.size) (hnv : ∀ kid xs, x ≠ .vq kid xs := by intro _ _ h; cases h) : R0 w0 N g (updB gB ((d, some x) :: gs)) a w' ro' (setβ β d k) := by
  have hgone : ∀ b, gone gB β gs b → (w0.heap.size ≤ b ∨ w0.ex b) ∧ ¬ ro b ∧ b < w.heap.size := fun b ⟨id, k', y, hm, hy, hk', ho⟩ => by
    obtain ⟨k'', hk'', _, hh⟩ := h.box id y hy
    rw [hk'] at hk''; cases hk''
    exact ⟨(hh b ho).1, (hh b ho).2, h.βLt id k' b _ hk' ho⟩
  have hrowlt : ∀ b, row = some b → (w0.heap.size ≤ b ∨ w0.ex b) ∧ ¬ ro b ∧ b < w.heap.size := fun b hb => hgone b (hrow b hb)
  have hsz0 : w0.heap.size ≤ w.heap.size := h.below.size
  have hβ : ∀ id k', β id = some k' → setβ β d k id = some k' := fun id k' hid => by
    unfold setβ
    by_cases e : id = d
    · subst e; rw [h.free _ hd] at hid; cases hid
    · rw [if_neg e]; exact hid
  have hw : ∀ b, ro b → w'.heap[b]? = w.heap[b]? := fun b hb => hg.block b (h.roLt b hb) (fun e => (hrowlt b e.symm).2.1 hb)
  have live : ∀ id y, updB gB ((d, some x) :: gs) id = some (some y) → (id = d ∧ y = x) ∨ (id ≠ d ∧ gB id = some (some y) ∧ getB gs id = none) := fun id y hy => by
    rw [updB_cons, updB_one] at hy
    by_cases e : id = d
    · rw [if_pos e] at hy; cases hy; exact .inl ⟨e, rfl⟩
    · rw [if_neg e] at hy
      unfold updB at hy
      cases hb : getB gs id with
      | none => rw [hb] at hy; exact .inr ⟨e, hy, rfl⟩
      | some r => rw [hb] at hy; have := (hgs id r (getB_some hb)).1; subst this; simp at hy
  have other : ∀ id y k', gB id = some (some y) → getB gs id = none → β id = some k' → ∀ b, owns y.kind k' b → b < w.heap.size ∧ ¬ gone gB β gs b := fun id y k' hy hn hk' b hb => by
    refine ⟨h.βLt id k' b _ hk' hb, fun ⟨id2, k2, y2, hm, hy2, hk2, ho2⟩ => ?_⟩
    have := h.inj id id2 _ _ b k' k2 hy hy2 hk' hk2 hb ho2
    subst this
    exact getB_mem hm hn
  refine ⟨?_, fun s => (h.slots s).mono hro hw hβ, fun id y hy => ?_, fun id id' y y' b k1 k2 h1 h2 e1 e2 o1 o2 => ?_, fun id hid => ?_, fun b hb => (hro' b hb).elim (fun h1 => h.roUp b h1) (fun h1 => .inr (.inl (Nat.le_trans hsz0 h1.1))), fun b hb => ?_, fun id k' b q hk' hb => ?_, h.defers, h.size, fun k' hk' => ⟨(h.fix k' hk').1, fun y hy => ?_⟩, fun id kid xs hx => ?_⟩
  · exact ⟨hg.os.trans h.below.os, hg.tape.trans h.below.tape, hg.output.trans h.below.output, Nat.le_trans hsz0 hg.size, fun k hk hx => (hg.block k (by omega) (fun e => by rcases (hrowlt k e.symm).1 with h1 | h1; omega; exact hx h1)).trans (h.below.block k hk hx), Nat.le_trans h.below.drawn hdr⟩
  · rcases live id y hy with ⟨rfl, rfl⟩ | ⟨hne, hy', hn⟩
    · refine ⟨k, by simp [setβ], hk, fun b hb => ?_⟩
      rcases hown b hb with h1 | h1
      · exact ⟨.inl (Nat.le_trans hsz0 h1.1), fun hr => by rcases hro' b hr with hr | hr; exact absurd (h.roLt b hr) (by omega); exact hr.2.2 hb⟩
      · obtain ⟨g1, g2, g3⟩ := hgone b h1
        exact ⟨g1, fun hr => by rcases hro' b hr with hr | hr; exact g2 hr; exact hr.2.2 hb⟩
    · obtain ⟨k', hk', hb, ho⟩ := h.box id y hy'
      have hoth := other id y k' hy' hn hk'
      refine ⟨k', hβ _ _ hk', hb.mono hro hw (fun b hb' => hg.block b (hoth b hb').1 (fun e => (hoth b hb').2 (hrow b e.symm))), fun b hb' => ⟨(ho b hb').1, fun hr => ?_⟩⟩
      rcases hro' b hr with hr | hr
      · exact (ho b hb').2 hr
      · exact absurd (hoth b hb').1 (by omega)
  · have key : ∀ id y k' b, gB id = some (some y) → getB gs id = none → β id = some k' → owns y.kind k' b → ¬ owns x.kind k b := fun id y k' b hy hn hk' hb e => by
      have := other id y k' hy hn hk' b hb
      rcases hown b e with h1 | h1
      · omega
      · exact this.2 h1
    rcases live id y h1 with ⟨rfl, rfl⟩ | ⟨n1, y1, l1⟩
    · rcases live id' y' h2 with ⟨rfl, rfl⟩ | ⟨n2, y2, l2⟩
      · rfl
      · simp only [setβ, if_true, if_neg n2] at e1 e2
        cases e1
        exact absurd o1 (key id' y' k2 b y2 l2 e2 o2)
    · rcases live id' y' h2 with ⟨rfl, rfl⟩ | ⟨n2, y2, l2⟩
      · simp only [setβ, if_true, if_neg n1] at e1 e2
        cases e2
        exact absurd o2 (key id y k1 b y1 l1 e1 o1)
      · simp only [setβ, if_neg n1, if_neg n2] at e1 e2
        exact h.inj id id' y y' b k1 k2 y1 y2 e1 e2 o1 o2
  · rw [updB_cons, updB_one] at hid
    split at hid
    · cases hid
    · rename_i e
      unfold updB at hid
      cases hb : getB gs id with
      | none => rw [hb] at hid; simp only [setβ, if_neg e]; exact h.free id hid
      | some r => rw [hb] at hid; cases hid
  · rcases hro' b hb with h1 | h1
    · exact Nat.lt_of_lt_of_le (h.roLt b h1) hg.size
    · exact h1.2.1
  · unfold setβ at hk'
    split at hk'
    · cases hk'; exact hall b q hb
    · exact Nat.lt_of_lt_of_le (h.βLt id k' b q hk' hb) hg.size
  · rcases live XID y hy with ⟨e, _⟩ | ⟨_, hy', _⟩
    · have := (h.fix k' hk').1; omega
    · exact hβ _ _ ((h.fix k' hk').2 y hy')
  · rcases live id _ hx with ⟨_, e⟩ | ⟨_, hy', _⟩
    · exact absurd e.symm (hnv kid xs)
    · obtain ⟨k1, k2, e1, e2, e3⟩ := h.lnk id kid xs hy'
      exact ⟨k1, k2, hβ _ _ e1, hβ _ _ e2, e3⟩

/-- a block that nobody has becomes one's own. -/
theorem R0.claim (h : R0 w0 N g gB a w ro β) {d : Nat} {x : Box} {k : Blk} (hd : gB d = none) (hdN : d < N ∨ XID < d) (hk : BoxRep w ro 0 k x)
    (hown : ∀ b, owns x.kind k b → w0.heap.size ≤ b ∧ ¬ ro b ∧ ∀ id y k', gB id = some (some y) → β id = some k' → ¬ owns y.kind k' b) (hall : ∀ b q, owns q k b → b < w.heap.size) (hnv : ∀ kid xs, x ≠ .vq kid xs := by intro _ _ h; cases h) : R0 w0 N g (updB gB [(d, some x)]) a w ro (setβ β d k) := by
  have hβ : ∀ id k', β id = some k' → setβ β d k id = some k' := fun id k' hid => by
    unfold setβ
    by_cases e : id = d
    · subst e; rw [h.free _ hd] at hid; cases hid
    · rw [if_neg e]; exact hid
  refine ⟨h.below, fun s => (h.slots s).mono (fun _ h => h) (fun _ _ => rfl) hβ, fun id y hy => ?_, fun id id' y y' b k1 k2 h1 h2 e1 e2 o1 o2 => ?_, fun id hid => ?_, h.roUp, h.roLt, fun id k' b q hk' hb => ?_, h.defers, h.size, fun k' hk' => ⟨(h.fix k' hk').1, fun y hy => ?_⟩, fun id kid xs hx => ?_⟩
  · rw [updB_one] at hy
    split at hy
    · rename_i e; subst e; cases hy
      exact ⟨k, by simp [setβ], hk, fun b hb => ⟨.inl (hown b hb).1, (hown b hb).2.1⟩⟩
    · obtain ⟨k', hk', hr, ho⟩ := h.box id y hy
      exact ⟨k', hβ _ _ hk', hr, ho⟩
  · rw [updB_one] at h1 h2
    unfold setβ at e1 e2
    split at h1
    · rename_i n1
      rw [if_pos n1] at e1
      cases h1; cases e1
      split at h2
      · rename_i n2; exact n1.trans n2.symm
      · rename_i n2
        rw [if_neg n2] at e2
        exact absurd o2 ((hown b o1).2.2 id' y' k2 h2 e2)
    · rename_i n1
      rw [if_neg n1] at e1
      split at h2
      · rename_i n2
        rw [if_pos n2] at e2
        cases h2; cases e2
        exact absurd o1 ((hown b o2).2.2 id y k1 h1 e1)
      · rename_i n2
        rw [if_neg n2] at e2
        exact h.inj id id' y y' b k1 k2 h1 h2 e1 e2 o1 o2
  · rw [updB_one] at hid
    split at hid
    · cases hid
    · rename_i e; simp only [setβ, if_neg e]; exact h.free id hid
  · unfold setβ at hk'
    split at hk'
    · cases hk'; exact hall b q hb
    · exact h.βLt id k' b q hk' hb
  · rw [updB_one] at hy
    split at hy
    · rename_i e; have := (h.fix k' hk').1; omega
    · exact hβ _ _ ((h.fix k' hk').2 y hy)
  · rw [updB_one] at hx
    split at hx
    · cases hx; exact absurd rfl (hnv kid xs)
    · obtain ⟨k1, k2, e1, e2, e3⟩ := h.lnk id kid xs hx
      exact ⟨k1, k2, hβ _ _ e1, hβ _ _ e2, e3⟩

/-- behind a call: what it has laid is read only. -/
theorem R0.after (h : R0 w0 N g gB a w ro β) {w' : World} (hb : BelowD w w') (o : Nat → Prop) : R0 w0 N g gB a w' (fun b => ro b ∨ (w.heap.size ≤ b ∧ b < w'.heap.size ∧ ¬ o b)) β := by
  have hw : ∀ b, b < w.heap.size → w'.heap[b]? = w.heap[b]? := fun b hb' => hb.block b hb'
  have hsz0 : w0.heap.size ≤ w.heap.size := h.below.size
  refine ⟨⟨hb.os.trans h.below.os, hb.tape.trans h.below.tape, hb.output.trans h.below.output, Nat.le_trans hsz0 hb.size, fun k hk hx => (hb.block k (by omega)).trans (h.below.block k hk hx), Nat.le_trans h.below.drawn hb.drawn⟩, fun s => (h.slots s).mono (fun b hb => .inl hb) (fun b hb => hw b (h.roLt b hb)) (fun _ _ h => h), fun id y hy => ?_, h.inj, h.free, fun b hb' => hb'.elim (fun h1 => h.roUp b h1) (fun h1 => .inr (.inl (Nat.le_trans hsz0 h1.1))), fun b hb' => ?_, fun id k b q hk ho => ?_, h.defers, h.size, h.fix, h.lnk⟩
  · obtain ⟨k, hk, hr, ho⟩ := h.box id y hy
    refine ⟨k, hk, hr.mono (fun b hb => .inl hb) (fun b hb => hw b (h.roLt b hb)) (fun b hb' => hw b (h.βLt id k b _ hk hb')), fun b hb' => ⟨(ho b hb').1, ?_⟩⟩
    rintro (hr | hr)
    · exact (ho b hb').2 hr
    · exact absurd (h.βLt id k b _ hk hb') (by omega)
  · rcases hb' with h1 | h1
    · exact Nat.lt_of_lt_of_le (h.roLt b h1) hb.size
    · exact h1.2.1
  · exact Nat.lt_of_lt_of_le (h.βLt id k b q hk ho) hb.size

/-- a store into a block of one's own. -/
theorem R0.store (h : R0 w0 N g gB a w ro β) {id : Nat} {x x' : Box} {k : Blk} {w' : World} (hid : gB id = some (some x)) (hk : β id = some k) (hkd : x'.kind = x.kind) (hsz : w'.heap.size = w.heap.size) (ht : w'.tape = w.tape) (ho : w'.os = w.os) (hout : w'.output = w.output) (hdr : w.drawn ≤ w'.drawn)
    (hb : ∀ b, ¬ owns x.kind k b → w'.heap[b]? = w.heap[b]?) (hx : BoxRep w' ro 0 k x') (hnv : ∀ kid xs, x' ≠ .vq kid xs := by intro _ _ h; cases h) : R0 w0 N g (updB gB [(id, some x')]) a w' ro β := by
  obtain ⟨k', hk', hrep, hown⟩ := h.box id x hid
  rw [hk] at hk'; cases hk'
  have hw : ∀ b, ro b → w'.heap[b]? = w.heap[b]? := fun b hb' => hb b (fun e => (hown b e).2 hb')
  have live : ∀ i z, (if i = id then some (some x') else gB i) = some (some z) → ∃ z', gB i = some (some z') ∧ z'.kind = z.kind := fun i z hz => by
    split at hz
    · rename_i e; subst e; cases hz; exact ⟨_, hid, hkd.symm⟩
    · exact ⟨z, hz, rfl⟩
  refine ⟨⟨ho.trans h.below.os, ht.trans h.below.tape, hout.trans h.below.output, by have := h.below.size; omega, fun b hb' hx => (hb b (fun e => by rcases (hown b e).1 with h1 | h1; omega; exact hx h1)).trans (h.below.block b hb' hx), Nat.le_trans h.below.drawn hdr⟩, fun s => (h.slots s).mono (fun b hb => hb) hw (fun _ _ h => h), fun id2 y hy => ?_, fun id1 id2 y1 y2 b k1 k2 h1 h2 e1 e2 o1 o2 => ?_, fun id2 h2 => ?_, h.roUp, fun b hb => by rw [hsz]; exact h.roLt b hb, fun id k b q hk hb => by rw [hsz]; exact h.βLt id k b q hk hb, h.defers, h.size, fun k' hk' => ⟨(h.fix k' hk').1, fun y hy => ?_⟩, fun i kid xs hy => ?_⟩
  · rw [updB_one] at hy
    split at hy
    · rename_i e
      cases hy; subst e
      exact ⟨k, hk, hx, fun b hb => hown b (hkd ▸ hb)⟩
    · rename_i e
      obtain ⟨k2, hk2, hr2, ho2⟩ := h.box id2 y hy
      exact ⟨k2, hk2, hr2.mono (fun b hb => hb) hw (fun b hb' => hb b (fun e' => e (h.inj id id2 _ _ b k k2 hid hy hk hk2 e' hb').symm)), ho2⟩
  · rw [updB_one] at h1 h2
    obtain ⟨z1, hz1, q1⟩ := live _ _ h1
    obtain ⟨z2, hz2, q2⟩ := live _ _ h2
    exact h.inj id1 id2 z1 z2 b k1 k2 hz1 hz2 e1 e2 (q1 ▸ o1) (q2 ▸ o2)
  · rw [updB_one] at h2
    split at h2
    · cases h2
    · exact h.free id2 h2
  · rw [updB_one] at hy
    split at hy
    · rename_i e; subst e; exact (h.fix k' hk').2 _ hid
    · exact (h.fix k' hk').2 _ hy
  · rw [updB_one] at hy
    split at hy
    · cases hy; exact absurd rfl (hnv kid xs)
    · exact h.lnk i kid xs hy

/-- a solid of one's own is stored into a variable. -/
theorem R0.storeQ (h : R0 w0 N g gB a w ro β) {id kid : Nat} {x : Box} {k kk : Blk} {w' : World} {xs : List Value} (hid : gB id = some (some x)) (hk : β id = some k) (hkk : β kid = some kk) (hx1 : x.kind = .one) (hsz : w'.heap.size = w.heap.size) (ht : w'.tape = w.tape) (ho : w'.os = w.os) (hout : w'.output = w.output) (hdr : w.drawn ≤ w'.drawn)
    (hb : ∀ b, k.own ≠ some b → w'.heap[b]? = w.heap[b]?) (hX : N ≤ XID → id ≠ XID) (hx : BoxRep w' ro 0 { k with lk := kk.v } (.vq kid xs)) : R0 w0 N g (updB gB [(id, some (.vq kid xs))]) a w' ro (setβ β id { k with lk := kk.v }) := by
  obtain ⟨k', hk', hrep, hown⟩ := h.box id x hid
  rw [hk] at hk'; cases hk'
  have hox : ∀ b, k.own = some b → owns x.kind k b := fun b hb => by rw [hx1]; exact hb
  have hw : ∀ b, ro b → w'.heap[b]? = w.heap[b]? := fun b hb' => hb b (fun e => (hown b (hox b e)).2 hb')
  have hβ : ∀ i q, β i = some q → ∃ q', setβ β id { k with lk := kk.v } i = some q' ∧ q'.v = q.v ∧ q'.own = q.own ∧ q'.z = q.z ∧ q'.fp = q.fp ∧ (i ≠ id → q' = q) := fun i q hi => by
    unfold setβ
    by_cases e : i = id
    · subst e; rw [hk] at hi; cases hi; exact ⟨_, if_pos rfl, rfl, rfl, rfl, rfl, fun e => absurd rfl e⟩
    · rw [if_neg e]; exact ⟨q, hi, rfl, rfl, rfl, rfl, fun _ => rfl⟩
  have hown' : ∀ q, owns q { k with lk := kk.v } = owns q k := fun q => by cases q <;> rfl
  have live : ∀ i z, (if i = id then some (some (Box.vq kid xs)) else gB i) = some (some z) → (i = id ∧ z = .vq kid xs) ∨ (i ≠ id ∧ gB i = some (some z)) := fun i z hz => by
    split at hz
    · rename_i e; cases hz; exact .inl ⟨e, rfl⟩
    · rename_i e; exact .inr ⟨e, hz⟩
  have back : ∀ i q, setβ β id { k with lk := kk.v } i = some q → ∃ q', β i = some q' ∧ ∀ r, owns r q = owns r q' := fun i q hi => by
    unfold setβ at hi
    by_cases e : i = id
    · rw [if_pos e] at hi; cases hi; exact ⟨k, e ▸ hk, fun r => hown' r⟩
    · rw [if_neg e] at hi; exact ⟨q, hi, fun _ => rfl⟩
  refine ⟨⟨ho.trans h.below.os, ht.trans h.below.tape, hout.trans h.below.output, by have := h.below.size; omega, fun b hb' hx => (hb b (fun e => by rcases (hown b (hox b e)).1 with h1 | h1; omega; exact hx h1)).trans (h.below.block b hb' hx), Nat.le_trans h.below.drawn hdr⟩, fun s => ?_, fun id2 y hy => ?_, fun id1 id2 y1 y2 b k1 k2 h1 h2 e1 e2 o1 o2 => ?_, fun id2 h2 => ?_, h.roUp, fun b hb => by rw [hsz]; exact h.roLt b hb, fun i q b r hq hb => ?_, h.defers, h.size, fun k' hk' => ⟨(h.fix k' hk').1, fun y hy => ?_⟩, fun i kid' xs' hy => ?_⟩
  · have h1 : RepS w' ro β (a.tmps.getD s undef) (g s) := (h.slots s).mono (fun _ h => h) hw (fun _ _ h => h)
    generalize a.tmps.getD s undef = v at h1
    generalize g s = sx at h1
    cases sx with
    | p a => exact h1
    | tup xs => exact h1
    | pt xs => exact h1
    | dead => trivial
    | osl i => obtain ⟨q, e1, e2⟩ := h1; obtain ⟨q', f1, f2, _⟩ := hβ i q e1; exact ⟨q', f1, by rw [f2]; exact e2⟩
    | kv i xs => obtain ⟨q, e1, e2⟩ := h1; obtain ⟨q', f1, f2, _⟩ := hβ i q e1; exact ⟨q', f1, by rw [f2]; exact e2⟩
    | tkv i xs ys => obtain ⟨q, e1, e2⟩ := h1; obtain ⟨q', f1, f2, _⟩ := hβ i q e1; exact ⟨q', f1, by rw [f2]; exact e2⟩
    | ref i off => obtain ⟨q, b, e1, e2, e3⟩ := h1; obtain ⟨q', f1, _, f3, _⟩ := hβ i q e1; exact ⟨q', b, f1, f3.trans e2, e3⟩
    | eref i j c => obtain ⟨q, b, e1, e2, e3⟩ := h1; obtain ⟨q', f1, _, f3, f4, _⟩ := hβ i q e1; exact ⟨q', b, f1, f3.trans e2, by rw [f4]; exact e3⟩
    | rix i off n m => obtain ⟨q, b, e1, e2, e3⟩ := h1; obtain ⟨q', f1, _, f3, _⟩ := hβ i q e1; exact ⟨q', b, f1, f3.trans e2, e3⟩
  · rw [updB_one] at hy
    rcases live id2 y hy with ⟨rfl, rfl⟩ | ⟨e, hy'⟩
    · exact ⟨_, if_pos rfl, hx, fun b hb => hown b (hox b hb)⟩
    · obtain ⟨k2, hk2, hr2, ho2⟩ := h.box id2 y hy'
      exact ⟨k2, (if_neg e).trans hk2, hr2.mono (fun b hb => hb) hw (fun b hb' => hb b (fun e' => e (h.inj id id2 _ _ b k k2 hid hy' hk hk2 (hox b e') hb').symm)), ho2⟩
  · rw [updB_one] at h1 h2
    have lv : ∀ i z q, (i = id ∧ z = Box.vq kid xs) ∨ (i ≠ id ∧ gB i = some (some z)) → setβ β id { k with lk := kk.v } i = some q → owns z.kind q b → ∃ z' q', gB i = some (some z') ∧ β i = some q' ∧ owns z'.kind q' b := fun i z q hc hq hz => by
      rcases hc with ⟨rfl, rfl⟩ | ⟨e, hz'⟩
      · have : q = { k with lk := kk.v } := by have := (if_pos (c := i = i) rfl).symm.trans hq; exact (Option.some.inj this).symm
        subst this
        exact ⟨x, k, hid, hk, hox b hz⟩
      · exact ⟨z, q, hz', (if_neg e).symm.trans hq, hz⟩
    obtain ⟨z1, q1, a1, a2, a3⟩ := lv id1 y1 k1 (live _ _ h1) e1 o1
    obtain ⟨z2, q2, b1, b2, b3⟩ := lv id2 y2 k2 (live _ _ h2) e2 o2
    exact h.inj id1 id2 z1 z2 b q1 q2 a1 b1 a2 b2 a3 b3
  · rw [updB_one] at h2
    split at h2
    · cases h2
    · rename_i e; exact (if_neg e).trans (h.free id2 h2)
  · obtain ⟨q', e1, e2⟩ := back i q hq
    rw [hsz]; exact h.βLt i q' b r e1 (by rw [← e2 r]; exact hb)
  · rw [updB_one] at hy
    have hne : XID ≠ id := fun e => hX (h.fix k' hk').1 e.symm
    rw [if_neg hne] at hy
    exact (if_neg hne).trans ((h.fix k' hk').2 _ hy)
  · rw [updB_one] at hy
    rcases live i _ hy with ⟨rfl, e⟩ | ⟨e, hy'⟩
    · cases e
      obtain ⟨q', f1, f2, _⟩ := hβ kid kk hkk
      exact ⟨_, q', if_pos rfl, f1, f2.symm⟩
    · obtain ⟨k1, k2, e1, e2, e3⟩ := h.lnk i kid' xs' hy'
      obtain ⟨q', f1, f2, _⟩ := hβ kid' k2 e2
      exact ⟨k1, q', (if_neg e).trans e1, f1, e3.trans f2.symm⟩
end

section
variable {P : Program} {N : Nat} {g : Nat → SV} {gB : Nat → Option (Option Box)} {o : Oper} {u : Upd} {cx : Cx Upd}

theorem al_new (w : World) (o : Obj) : (w.alloc o).heap[w.heap.size]? = some o := by
  show (w.heap.push o)[w.heap.size]? = some o
  simp
theorem al_size (w : World) (o : Obj) : (w.alloc o).heap.size = w.heap.size + 1 := by
  show (w.heap.push o).size = _
  simp

theorem owns_own {k : Blk} {q : BK} {b : Nat} (h : k.fp = []) (ho : owns q k b) : k.own = some b := by
  cases q with
  | one => exact ho
  | fro => exact ho.elim
  | deep => simp only [owns, h] at ho; cases ho
/-- an operation that lays a block. -/
theorem okN {d : Nat} {x : Box} {bs : Bxs} {s : SV} (ho : o.dst = some d) (hN : d < N) (hd : gB d = none)
    (h : ∀ (w0 : Base) (a : Act) (w : World) (ro : Nat → Prop) (β : Nat → Option Blk), R0 w0 N g gB a w ro β → Frz gB bs ∧ ∃ v w' k, (execOp a.eval o).run P w = .ok (.value v) w' ∧ w.grownBy w' none ∧
      BoxRep w' (rof gB ro β bs) 0 k x ∧ k.fp = [] ∧ (∀ b, k.own = some b → w.heap.size ≤ b ∧ b < w'.heap.size) ∧ ((s = .osl d ∧ v = k.v) ∨ (s = .ref d 0 ∧ ∃ b, k.own = some b ∧ v = .pointer (some ⟨b, 0, none⟩)))) (hnv : ∀ kid xs, x ≠ .vq kid xs := by intro _ _ h; cases h) : Okk P N g gB o ⟨s, (d, some x) :: bs⟩ := by
  intro w0 a w K Q hR hK
  obtain ⟨ro, β, hR⟩ := hR
  obtain ⟨hf, v, w', k, hv, hg, hbox, hfp, hown, hs⟩ := h w0 a w ro β hR
  unfold Oper.wp
  rw [hv]
  have h1 := hR.freeze hf
  have hd' : updB gB bs d = none := by
    unfold updB
    cases hb : getB bs d with
    | none => exact hd
    | some r => obtain ⟨t, e, l, _, hl⟩ := hf d r (getB_some hb); rw [hd] at hl; cases hl
  have h2 := h1.grow (d := d) (x := x) (k := k) (w' := w') (ro' := rof gB ro β bs) (row := none) (gs := []) hd' (.inl hN) (fun _ _ h => by cases h) hg (run_drawn _ hv) (fun b h => by cases h) (fun b hb => hb) (fun b hb => .inl hb) hbox (fun b hb => .inl (hown b (owns_own hfp hb))) (fun b q hb => (hown b (owns_own hfp hb)).2) hnv
  rw [← updB_cons] at h2
  refine hK _ _ ⟨_, _, h2.put (fun x hx => by rw [ho] at hx; cases hx; exact hN) ?_⟩
  rcases hs with ⟨rfl, rfl⟩ | ⟨rfl, b, hb, rfl⟩
  · exact ⟨k, by simp [setβ], rfl⟩
  · exact ⟨k, b, by simp [setβ], hb, rfl⟩

theorem ok_box {t : TypeId} {x : Operand} {d : Nat} {y : AV} {bs : Bxs} (hop : o.op = .box t x) (ho : o.dst = some d) (hN : d < N) (hd : gB d = none) (hx : exF g gB x = some (y, bs)) : Okk P N g gB o ⟨.ref d 0, (d, some (.vr (cellsA y))) :: bs⟩ :=
  okN ho hN hd fun w0 a w ro β hR => by
    obtain ⟨hf, hr⟩ := hR.exF hx
    refine ⟨hf, .pointer (some ⟨w.heap.size, 0, none⟩), w.alloc (.cells (a.eval x).cells t), { v := .pointer (some ⟨w.heap.size, 0, none⟩), own := some w.heap.size }, ?_, World.grownBy_alloc w _ none, ?_, rfl, ?_, .inr ⟨rfl, _, rfl, rfl⟩⟩
    · simp [execOp, hop, Instr.box, newVar, newRow]
    · have hr' := hr.mono (w' := w.alloc (.cells (a.eval x).cells t)) (fun b hb => hb) (fun b hb => Below.heap_alloc w _ b ((hR.freeze hf).roLt b hb))
      obtain ⟨hn, hc⟩ := cells_rep hr'
      refine ⟨w.heap.size, (a.eval x).cells, t, rfl, al_new w _, hn, fun i y hy => ?_⟩
      have hi : i < (a.eval x).cells.size := by rw [hn]; exact (List.getElem?_eq_some_iff.1 hy).1
      exact ⟨(a.eval x).cells[i], by simp [hi], hc i _ y (by simp [hi]) hy⟩
    · intro b hb; cases hb; rw [al_size]; omega

theorem ok_alloc {t : TypeId} {z : Value} {d : Nat} (hop : o.op = .alloc t) (ho : o.dst = some d) (hN : d < N) (hd : gB d = none) (hz : zeroP P t = some z) : Okk P N g gB o ⟨.ref d 0, [(d, some (.vr (z.cells.toList.map .v)))]⟩ :=
  okN ho hN hd fun w0 a w ro β hR => by
    refine ⟨.nil _, .pointer (some ⟨w.heap.size, 0, none⟩), w.alloc (.cells z.cells t), { v := .pointer (some ⟨w.heap.size, 0, none⟩), own := some w.heap.size }, ?_, World.grownBy_alloc w _ none, ?_, rfl, ?_, .inr ⟨rfl, _, rfl, rfl⟩⟩
    · simp only [execOp, hop]
      refine run_val (α := Unit) ?_
      unfold Instr.alloc
      rw [run_bind_ok (pr_zero hz w)]
      simp [newVar, newRow]
    · refine ⟨w.heap.size, z.cells, t, rfl, al_new w _, by simp, fun i y hy => ?_⟩
      simp only [List.getElem?_map, Array.getElem?_toList] at hy
      cases hz : z.cells[i]? with
      | none => rw [hz] at hy; cases hy
      | some x => rw [hz] at hy; cases hy; exact ⟨x, rfl, .v x⟩
    · intro b hb; cases hb; rw [al_size]; omega

theorem elI_spec {t : TypeId} {e : El} (h : elI P t = some e) : ∃ i z, P.info? t = some i ∧ i.zero = some z ∧ elOfZero (some z) = some e ∧ i.size = e.z ∧ i.bytes ≤ 64 ∧ z.cells.size = e.z := by
  unfold elI at h
  split at h
  · rename_i i hi
    split at h
    · rename_i e' he
      split at h
      · rename_i h1 h2
        cases h
        cases hz : i.zero with
        | none => rw [hz] at he; cases he
        | some z =>
          rw [hz] at he
          refine ⟨i, z, hi, hz, he, beq_iff.1 h1, Nat.le_of_ble_eq_true h2, ?_⟩
          unfold elOfZero at he
          split at he <;> cases he <;> rename_i hh <;> cases hh <;> rfl
      · cases h
    · cases h
  · cases h

theorem zcell {z : Value} {e : El} (he : elOfZero (some z) = some e) (hz : zok z = true) {w : World} {ro : Nat → Prop} (c : Nat) (hc : c < e.z) : ∃ x, z.cells[c]? = some x ∧ Rep w ro x (e.cell default c) := by
  unfold elOfZero at he
  split at he <;> cases he <;> rename_i hh <;> cases hh
  · simp only [zok, decide_eq_true_eq] at hz
    subst hz
    have : c = 0 := by simp [El.z] at hc; exact hc
    subst this
    exact ⟨_, rfl, .v _⟩
  · simp only [zok, Bool.and_eq_true, decide_eq_true_eq] at hz
    obtain ⟨⟨⟨rfl, rfl⟩, rfl⟩, rfl⟩ := hz
    simp only [El.z] at hc
    match c, hc with
    | 0, _ => exact ⟨_, rfl, .v _⟩
    | 1, _ => exact ⟨_, rfl, .v _⟩
    | 2, _ => exact ⟨_, rfl, .v _⟩
    | 3, _ => exact ⟨_, rfl, .v _⟩
  · rename_i xx a1 a2 a3 a4 A n cp
    have : A = none ∧ n = 0 ∧ cp = 0 ∧ xx = false ∧ a1 = 0 ∧ a2 = 0 ∧ a3 = 0 ∧ a4 = 0 := by
      unfold zok at hz
      split at hz <;> simp_all
    obtain ⟨rfl, rfl, rfl, rfl, rfl, rfl, rfl, rfl⟩ := this
    simp only [El.z] at hc
    match c, hc with
    | 0, _ => exact ⟨_, rfl, .v _⟩
    | 1, _ => exact ⟨_, rfl, .v _⟩
    | 2, _ => exact ⟨_, rfl, .v _⟩
    | 3, _ => exact ⟨_, rfl, .v _⟩
    | 4, _ => exact ⟨_, rfl, .v _⟩
    | 5, _ => exact ⟨_, rfl, Rep.sl none 0 .tree [] (fun _ _ => undef) (Nat.le_refl _) (fun _ => rfl) (fun j hj => by cases hj) (fun j c hj => by cases hj)⟩
  · rename_i A n cp
    have : A = none ∧ n = 0 ∧ cp = 0 := by
      unfold zok at hz
      split at hz <;> simp_all
    obtain ⟨rfl, rfl, rfl⟩ := this
    have : c = 0 := by simp [El.z] at hc; exact hc
    subst this
    exact ⟨_, rfl, Rep.sl none 0 .s4 [] (fun _ _ => undef) (Nat.le_refl _) (fun _ => rfl) (fun j hj => by cases hj) (fun j c hj => by cases hj)⟩
  · unfold zok at hz; split at hz <;> simp_all
  · unfold zok at hz; split at hz <;> simp_all
end
end Go.Proofs.YtalkkenkeilmpaaGreat.Ev
