/- Regions: what the evaluator tells, in the text's order, is what the model does in whatever order it picks. -/
import Derived.Test.YtalkkenkeilmpaaGreatEv9
namespace Go.Proofs.YtalkkenkeilmpaaGreat.Ev
open Go Go.RowKit
set_option linter.unusedVariables false
set_option linter.unusedSimpArgs false

abbrev S2 := Env × Bxs
def put (st : S2) (d : Option Nat) (u : Upd) : S2 := (match d with | some d => (d, u.v) :: st.1 | none => st.1, u.bs ++ st.2)
def memB (n : Nat) : List Nat → Bool
  | [] => false
  | x :: r => match Nat.beq x n with | true => true | false => memB n r
def restr (L : List Nat) (g : Nat → SV) (s : Nat) : SV := match memB (2 * s) L with | true => g s | false => .dead
def restrB (L : List Nat) (gB : Nat → Option (Option Box)) (s : Nat) : Option (Option Box) := match memB (2 * s + 1) L with | true => gB s | false => none
def disj : List Nat → List Nat → Bool
  | [], _ => true
  | x :: r, l => match memB x l with | true => false | false => disj r l
def guardSlot (ops : Array Oper) (j : Nat) : Option Nat := match ops[j]? with | some o => o.dst | none => none
def idsOf : SV → List Nat
  | .osl id => [2 * id + 1]
  | .ref id _ => [2 * id + 1]
  | .eref id _ _ => [2 * id + 1]
  | .rix id _ _ _ => [2 * id + 1]
  | .kv id _ => [2 * id + 1]
  | .tkv id _ _ => [2 * id + 1]
  | _ => []
def opdLoc (g : Nat → SV) : List Operand → List Nat
  | [] => []
  | .tmp t :: r => 2 * t :: (idsOf (g t) ++ opdLoc g r)
  | _ :: r => opdLoc g r
def dstLoc : Option Nat → List Nat
  | some d => [2 * d, 2 * d + 1]
  | none => []
def keysB : Bxs → List Nat
  | [] => []
  | (id, _) :: r => (2 * id + 1) :: keysB r
/-- a step of a region: the places that it looks at or writes, those that it writes, the steps before it. -/
structure Ent where
  L : List Nat
  W : List Nat
  m : Nat
def bit (m k : Nat) : Bool := Nat.beq (Nat.mod (Nat.shiftRight m k) 2) 1
def maskAt (H : List Ent) (k : Nat) : Nat := match H[k]? with | some e => e.m | none => 0
def maskOf (H : List Ent) : List Edge → Nat
  | [] => 0
  | e :: r => match Region.binds .any e with
    | true => Nat.lor (Nat.lor (Nat.shiftLeft 1 e.on) (maskAt H e.on)) (maskOf H r)
    | false => maskOf H r
def edgesOk (i : Nat) : List Edge → Bool
  | [] => true
  | e :: r => match Region.binds .any e with
    | true => (match Nat.ble (e.on + 1) i with | true => edgesOk i r | false => false)
    | false => edgesOk i r
def chk (m : Nat) (L W : List Nat) : Nat → List Ent → Bool
  | _, [] => true
  | k, h :: r => match bit m k with
    | true => chk m L W (k + 1) r
    | false => match disj h.W L, disj W h.L with | true, true => chk m L W (k + 1) r | _, _ => false

section
variable {ρ : Type} (cx : Cx ρ) (ops : Array Oper)
def skipU : Upd := ⟨.p (.v undef), []⟩
/-- the guard of an operation: is it wanted? 'K' gets that, and the state in which the guard is a literal. -/
def evGuard (o : Oper) (st : S2) (K : Bool → S2 → Option ρ) : Option ρ := match o.guard with
  | none => K true st
  | some (j, want) => match guardSlot ops j with
    | some d => match get st.1 d with
      | .p (.v (.bool b)) => if b = true then K want ((d, .p (.v (.bool true))) :: st.1, st.2) else K (!want) ((d, .p (.v (.bool false))) :: st.1, st.2)
      | .p (.v (.tuple _)) => K false st
      | _ => none
    | none => none
def evOps : List Oper → S2 → (S2 → Option ρ) → Option ρ
  | [], st, K => K st
  | o :: rest, st, K => evGuard ops o st fun w st => match w with
    | true => evOp cx (get st.1) (getB st.2) o fun u => evOps rest (put st o.dst u) K
    | false => evOps rest (put st o.dst skipU) K
def guardLoc (o : Oper) : List Nat := match o.guard with
  | none => []
  | some (j, _) => match guardSlot ops j with | some d => [2 * d] | none => []
def evDraw : List Oper → List Ent → S2 → (S2 → Option ρ) → Option ρ
  | [], _, st, K => K st
  | o :: rest, H, st, K => evGuard ops o st fun w st => match edgesOk H.length o.after.toList with
    | false => none
    | true => match w with
      | true => evOp cx (restr (guardLoc ops o ++ opdLoc (get st.1) o.op.operands.toList ++ dstLoc o.dst) (get st.1)) (restrB (guardLoc ops o ++ opdLoc (get st.1) o.op.operands.toList ++ dstLoc o.dst) (getB st.2)) o fun u =>
          match chk (maskOf H o.after.toList) (keysB u.bs ++ (guardLoc ops o ++ opdLoc (get st.1) o.op.operands.toList ++ dstLoc o.dst)) (keysB u.bs ++ dstLoc o.dst) 0 H with
          | true => evDraw rest (H ++ [⟨keysB u.bs ++ (guardLoc ops o ++ opdLoc (get st.1) o.op.operands.toList ++ dstLoc o.dst), keysB u.bs ++ dstLoc o.dst, maskOf H o.after.toList⟩]) (put st o.dst u) K
          | false => none
      | false => match chk (maskOf H o.after.toList) (guardLoc ops o ++ dstLoc o.dst) (dstLoc o.dst) 0 H with
          | true => evDraw rest (H ++ [⟨guardLoc ops o ++ dstLoc o.dst, dstLoc o.dst, maskOf H o.after.toList⟩]) (put st o.dst skipU) K
          | false => none
end

theorem get_put (st : S2) (d : Option Nat) (u : Upd) : get (put st d u).1 = upd (get st.1) d u.v := by
  funext s
  cases d with
  | none => rfl
  | some d => rfl
theorem getB_app (bs b : Bxs) (s : Nat) : getB (bs ++ b) s = updB (getB b) bs s := by
  induction bs with
  | nil => rfl
  | cons x bs ih =>
    obtain ⟨k, v⟩ := x
    simp only [List.cons_append, getB, updB] at ih ⊢
    cases Nat.beq k s with
    | true => rfl
    | false => exact ih
theorem getB_put (st : S2) (d : Option Nat) (u : Upd) : getB (put st d u).2 = updB (getB st.2) u.bs := by
  funext s; exact getB_app _ _ _

section
variable {P : Program} {N : Nat} {ops : Array Oper} {o : Oper}

theorem R.get_cons {w0 : Base} {e : Env} {gB : Nat → Option (Option Box)} {a : Act} {w : World} {d : Nat} {s : SV} (h : get e d = s) : get ((d, s) :: e) = get e := by
  funext t
  simp only [get]
  cases hb : Nat.beq d t with
  | true => rw [beq_iff] at hb; subst hb; exact h.symm
  | false => rfl

theorem guard_wanted {w0 : Base} {g : Nat → SV} {gB : Nat → Option (Option Box)} {a : Act} {w : World} (hR : R w0 N g gB a w) {j d : Nat} {want b : Bool} (hg : o.guard = some (j, want)) (hs : guardSlot ops j = some d) (hd : g d = .p (.v (.bool b))) : Region.wanted o (yielded ops a.tmps) = (b == want) := by
  obtain ⟨ro, β, hR⟩ := hR
  have h1 := hR.slots d
  rw [hd] at h1
  have h2 := rep_v_inv h1
  have h3 : a.tmps[d]? = some (.bool b) := by
    cases h : a.tmps[d]? with
    | none => simp [h, undef] at h2
    | some v => simp [h] at h2; rw [h2]
  unfold Region.wanted yielded
  unfold guardSlot at hs
  simp only [hg]
  cases ho : ops[j]? with
  | none => rw [ho] at hs; cases hs
  | some oo =>
    rw [ho] at hs
    simp only [Option.bind_some, hs, h3]
    cases b <;> cases want <;> rfl

theorem guard_undef {w0 : Base} {g : Nat → SV} {gB : Nat → Option (Option Box)} {a : Act} {w : World} (hR : R w0 N g gB a w) {j d : Nat} {want : Bool} {xs : Array Value} (hg : o.guard = some (j, want)) (hs : guardSlot ops j = some d) (hd : g d = .p (.v (.tuple xs))) : Region.wanted o (yielded ops a.tmps) = false := by
  obtain ⟨ro, β, hR⟩ := hR
  have h1 := hR.slots d
  rw [hd] at h1
  have h2 := rep_v_inv h1
  unfold Region.wanted yielded
  unfold guardSlot at hs
  simp only [hg]
  cases ho : ops[j]? with
  | none => rw [ho] at hs; cases hs
  | some oo =>
    rw [ho] at hs
    simp only [Option.bind_some, hs]
    cases h : a.tmps[d]? with
    | none => rfl
    | some v => simp [h] at h2; rw [h2]; rfl

variable {ρ : Type} {cx : Cx ρ} {r : ρ}

/-- the guard as it is. -/
theorem evGuard_ok {st : S2} {K : Bool → S2 → Option ρ} (h : evGuard ops o st K = some r) : ∃ want st', K want st' = some r ∧ get st'.1 = get st.1 ∧ st'.2 = st.2 ∧
    ((o.guard = none ∧ want = true) ∨ (∃ j d wt b, o.guard = some (j, wt) ∧ guardSlot ops j = some d ∧ get st.1 d = .p (.v (.bool b)) ∧ want = (b == wt)) ∨ (∃ j d wt xs, o.guard = some (j, wt) ∧ guardSlot ops j = some d ∧ get st.1 d = .p (.v (.tuple xs)) ∧ want = false)) := by
  unfold evGuard at h
  split at h
  · rename_i hg; exact ⟨true, st, h, rfl, rfl, .inl ⟨hg, rfl⟩⟩
  · rename_i j wt hg
    split at h
    · rename_i d hd
      split at h
      · rename_i b hb
        split at h
        · rename_i ht
          subst ht
          exact ⟨wt, _, h, R.get_cons (w0 := ⟨default, fun _ => False, fun _ => False, none⟩) (gB := fun _ => none) (a := ⟨#[], []⟩) (w := default) hb, rfl, .inr (.inl ⟨j, d, wt, true, hg, hd, hb, by cases wt <;> rfl⟩)⟩
        · rename_i ht
          have ht : b = false := by cases b <;> simp_all
          subst ht
          exact ⟨!wt, _, h, R.get_cons (w0 := ⟨default, fun _ => False, fun _ => False, none⟩) (gB := fun _ => none) (a := ⟨#[], []⟩) (w := default) hb, rfl, .inr (.inl ⟨j, d, wt, false, hg, hd, hb, by cases wt <;> rfl⟩)⟩
      · rename_i xs hb; exact ⟨false, st, h, rfl, rfl, .inr (.inr ⟨j, d, wt, xs, hg, hd, hb, rfl⟩)⟩
      · cases h
    · cases h

theorem wanted_of {st : S2} {w0 : Base} {g : Nat → SV} {gB : Nat → Option (Option Box)} {a : Act} {w : World} {want : Bool} {e : Nat → SV} (hR : R w0 N g gB a w)
    (hg : (o.guard = none ∧ want = true) ∨ (∃ j d wt b, o.guard = some (j, wt) ∧ guardSlot ops j = some d ∧ e d = .p (.v (.bool b)) ∧ want = (b == wt)) ∨ (∃ j d wt xs, o.guard = some (j, wt) ∧ guardSlot ops j = some d ∧ e d = .p (.v (.tuple xs)) ∧ want = false)) (he : ∀ j wt d, o.guard = some (j, wt) → guardSlot ops j = some d → g d = e d) : Region.wanted o (yielded ops a.tmps) = want := by
  rcases hg with ⟨h1, rfl⟩ | ⟨j, d, wt, b, h1, h2, h3, rfl⟩ | ⟨j, d, wt, xs, h1, h2, h3, rfl⟩
  · unfold Region.wanted; rw [h1]
  · exact guard_wanted hR h1 h2 ((he j wt d h1 h2).trans h3)
  · exact guard_undef hR h1 h2 ((he j wt d h1 h2).trans h3)

theorem R.skip {w0 : Base} {g : Nat → SV} {gB : Nat → Option (Option Box)} {a : Act} {w : World} (h : R w0 N g gB a w) {d : Option Nat} (hd : ∀ x, d = some x → x < N) : R w0 N (upd g d skipU.v) (updB gB skipU.bs) (a.put d undef) w := by
  obtain ⟨ro, β, h⟩ := h
  exact ⟨ro, β, h.put hd (Rep.v undef)⟩

theorem evOps_ok (hP : cx.P = P) (hC : CallsOk P cx) : ∀ (l : List Oper) (st : S2) (K : S2 → Option ρ), (∀ o ∈ l, ∀ d, o.dst = some d → d < N) → evOps cx ops l st K = some r →
    ∃ st', K st' = some r ∧ ∀ (w0 : Base) (a : Act) (w : World) (Q : Exit → Act → World → Prop), R w0 N (get st.1) (getB st.2) a w → (∀ a' w', R w0 N (get st'.1) (getB st'.2) a' w' → Q .normal a' w') → wpList P ops Q l a w
  | [], st, K, hd, h => ⟨st, h, fun w0 a w Q hR hQ => hQ a w hR⟩
  | o :: l, st, K, hd, h => by
    simp only [evOps] at h
    obtain ⟨want, st1, h, e1, e2, hg⟩ := evGuard_ok h
    cases want with
    | true =>
      simp only at h
      obtain ⟨u, h, hu⟩ := evOp_ok hP hC (hd o List.mem_cons_self) h
      have hu := hu _ _ (Sub.refl _ _ o)
      obtain ⟨st', h', hh⟩ := evOps_ok hP hC l _ K (fun o ho => hd o (List.mem_cons_of_mem _ ho)) h
      refine ⟨st', h', fun w0 a w Q hR hQ => ?_⟩
      have hw := wanted_of (st := st) hR hg (fun _ _ _ _ _ => rfl)
      unfold wpList
      rw [if_pos hw]
      refine .inl (hu w0 a w _ Q (by rw [e1, e2]; exact hR) fun a' w' hR' => hh w0 a' w' Q ?_ hQ)
      rw [get_put, getB_put]; exact hR'
    | false =>
      simp only at h
      obtain ⟨st', h', hh⟩ := evOps_ok hP hC l _ K (fun o ho => hd o (List.mem_cons_of_mem _ ho)) h
      refine ⟨st', h', fun w0 a w Q hR hQ => ?_⟩
      have hw := wanted_of (st := st) hR hg (fun _ _ _ _ _ => rfl)
      unfold wpList
      rw [hw, if_neg (by simp)]
      refine hh w0 _ w Q ?_ hQ
      rw [get_put, getB_put, e1, e2]
      exact hR.skip (hd o List.mem_cons_self)
end
end Go.Proofs.YtalkkenkeilmpaaGreat.Ev
