/- Some value: what ends. -/
import Derived.Test.YtalkkenkeilmpaaGreatP1
namespace Go.Proofs.YtalkkenkeilmpaaGreat.Q
open Go Go.RowKit Go.Proofs Go.Proofs.YtalkkenkeilmpaaGreat.Ev Go.Proofs.YtalkkenkeilmpaaGreat.G
set_option linter.unusedSimpArgs false
set_option linter.unusedVariables false

/-- with rounds enough it is some value of this kind. -/
def Ex {α : Type} (f : Nat → Option α) (R : α → Prop) : Prop := ∃ v, Ev f v ∧ R v
theorem Ev.ex {α : Type} {f : Nat → Option α} {v : α} {R : α → Prop} (h : Ev f v) (hr : R v) : Ex f R := ⟨v, h, hr⟩
theorem Ex.bind {α β : Type} {f : Nat → Option α} {g : Nat → α → Option β} {R : α → Prop} {R' : β → Prop} (h : Ex f R) (h2 : ∀ v, R v → Ex (fun k => g k v) R') : Ex (fun k => (f k).bind (g k)) R' := by
  obtain ⟨v, hv, hr⟩ := h
  obtain ⟨u, hu, hr'⟩ := h2 v hr
  exact ⟨u, hv.bind hu, hr'⟩
theorem Ex.now {α : Type} {v : α} {R : α → Prop} (h : R v) : Ex (fun _ => some v) R := ⟨v, .now fun _ => rfl, h⟩
theorem Ex.mono {α : Type} {f : Nat → Option α} {R R' : α → Prop} (h : Ex f R) (hr : ∀ v, R v → R' v) : Ex f R' := by
  obtain ⟨v, hv, h⟩ := h; exact ⟨v, hv, hr v h⟩
theorem Ex.congr {α : Type} {f g : Nat → Option α} {R : α → Prop} (h : Ex f R) (e : ∀ k, g k = f k) : Ex g R := by
  obtain ⟨v, hv, h⟩ := h; exact ⟨v, hv.congr e, h⟩
/-- loops likewise. -/
def Lx {α : Type} (f : Nat → Nat → Option α) (R : α → Prop) : Prop := ∃ v, Lv f v ∧ R v
theorem Lx.ex {α : Type} {f : Nat → Nat → Option α} {R : α → Prop} (h : Lx f R) : Ex (fun k => f k k) R := by
  obtain ⟨v, hv, hr⟩ := h; exact ⟨v, hv.ev, hr⟩
theorem Lx.step {α : Type} {f g : Nat → Nat → Option α} {R : α → Prop} (h : Lx g R) (e : ∀ k n, f k (n + 1) = g k n) : Lx f R := by
  obtain ⟨v, hv, hr⟩ := h; exact ⟨v, hv.step e, hr⟩
theorem Lx.bind {α β : Type} {f : Nat → Option α} {g : Nat → Nat → α → Option β} {R : α → Prop} {R' : β → Prop} (h : Ex f R) (h2 : ∀ v, R v → Lx (fun k n => g k n v) R') : Lx (fun k n => (f k).bind (g k n)) R' := by
  obtain ⟨v, hv, hr⟩ := h
  obtain ⟨u, hu, hr'⟩ := h2 v hr
  exact ⟨u, Lv.bind hv hu, hr'⟩
theorem Lx.now {α : Type} {f : Nat → Nat → Option α} {v : α} {R : α → Prop} (e : ∀ k n, f k n = some v) (h : R v) : Lx f R := ⟨v, .now e, h⟩
theorem Lx.congr {α : Type} {f g : Nat → Nat → Option α} {R : α → Prop} (h : Lx f R) (e : ∀ k n, g k n = f k n) : Lx g R := by
  obtain ⟨v, hv, hr⟩ := h; exact ⟨v, hv.congr e, hr⟩

end Go.Proofs.YtalkkenkeilmpaaGreat.Q
