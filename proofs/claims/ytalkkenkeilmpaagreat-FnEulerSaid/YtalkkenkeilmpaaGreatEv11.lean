/- Regions that draw their order: the text's order stands for all. -/
import Derived.Test.YtalkkenkeilmpaaGreatEv10
namespace Go.Proofs.YtalkkenkeilmpaaGreat.Ev
open Go Go.RowKit
set_option linter.unusedVariables false
set_option linter.unusedSimpArgs false

abbrev Fs := (Nat → SV) × (Nat → Option (Option Box))
structure Stp where
  o : Oper
  u : Upd
  L : List Nat
  W : List Nat
  m : Nat
def app (F : Fs) (s : Stp) : Fs := (upd F.1 s.o.dst s.u.v, updB F.2 s.u.bs)
def lex (F0 : Fs) (S : Nat → Stp) : Nat → Fs
  | 0 => F0
  | k + 1 => app (lex F0 S k) (S k)
def gd (F0 : Fs) (S : Nat → Stp) (D : Nat → Bool) : Nat → Fs
  | 0 => F0
  | k + 1 => if D k = true then app (gd F0 S D k) (S k) else gd F0 S D k
def agree (L : List Nat) (F F' : Fs) : Prop := (∀ s, memB (2 * s) L = true → F.1 s = F'.1 s) ∧ ∀ id, memB (2 * id + 1) L = true → F.2 id = F'.2 id
def covers (s : Stp) : Prop := (∀ d, s.o.dst = some d → memB (2 * d) s.W = true) ∧ ∀ id, getB s.u.bs id ≠ none → memB (2 * id + 1) s.W = true

theorem disj_ok {a b : List Nat} {x : Nat} (h : disj a b = true) (hx : memB x a = true) : memB x b = false := by
  induction a with
  | nil => cases hx
  | cons y a ih =>
    simp only [disj] at h
    simp only [memB] at hx
    cases hy : memB y b with
    | true => rw [hy] at h; cases h
    | false =>
      rw [hy] at h
      cases he : Nat.beq y x with
      | true => rw [beq_iff] at he; subst he; exact hy
      | false => rw [he] at hx; exact ih h hx

theorem app_out1 {F : Fs} {s : Stp} (hc : covers s) {t : Nat} (h : memB (2 * t) s.W = false) : (app F s).1 t = F.1 t := by
  unfold app upd
  cases hd : s.o.dst with
  | none => rfl
  | some d =>
    simp only
    cases hb : Nat.beq d t with
    | true => rw [beq_iff] at hb; subst hb; rw [hc.1 d hd] at h; cases h
    | false => rfl
theorem app_out2 {F : Fs} {s : Stp} (hc : covers s) {t : Nat} (h : memB (2 * t + 1) s.W = false) : (app F s).2 t = F.2 t := by
  show (match getB s.u.bs t with | some r => some r | none => F.2 t) = F.2 t
  cases hb : getB s.u.bs t with
  | none => rfl
  | some r => rw [hc.2 t (by rw [hb]; simp)] at h; cases h
theorem app_eq1 {F F' : Fs} {s : Stp} {t : Nat} (h : F.1 t = F'.1 t) : (app F s).1 t = (app F' s).1 t := by
  unfold app upd
  cases hd : s.o.dst with
  | none => exact h
  | some d => simp only; cases Nat.beq d t <;> simp [h]
theorem app_eq2 {F F' : Fs} {s : Stp} {t : Nat} (h : F.2 t = F'.2 t) : (app F s).2 t = (app F' s).2 t := by
  unfold app updB
  cases getB s.u.bs t <;> simp [h]
theorem app_agree {L : List Nat} {F F' : Fs} {s : Stp} (h : agree L F F') : agree L (app F s) (app F' s) := ⟨fun t ht => app_eq1 (h.1 t ht), fun t ht => app_eq2 (h.2 t ht)⟩
theorem app_away {L : List Nat} {F F' : Fs} {s : Stp} (hc : covers s) (hd : disj s.W L = true) (h : agree L F F') : agree L F (app F' s) := by
  refine ⟨fun t ht => ?_, fun t ht => ?_⟩
  · rw [app_out1 hc (by cases hb : memB (2 * t) s.W with | false => rfl | true => rw [disj_ok hd hb] at ht; cases ht)]; exact h.1 t ht
  · rw [app_out2 hc (by cases hb : memB (2 * t + 1) s.W with | false => rfl | true => rw [disj_ok hd hb] at ht; cases ht)]; exact h.2 t ht
theorem agree.symm {L : List Nat} {F F' : Fs} (h : agree L F F') : agree L F' F := ⟨fun t ht => (h.1 t ht).symm, fun t ht => (h.2 t ht).symm⟩

/-- two steps that don't touch each other's places may change places. -/
theorem app_comm {F : Fs} {s t : Stp} (hs : covers s) (ht : covers t) (h : disj s.W t.W = true) : app (app F s) t = app (app F t) s := by
  apply Prod.ext
  · funext x
    by_cases h1 : memB (2 * x) s.W = true
    · have h2 := disj_ok h h1
      rw [app_out1 ht h2]; exact app_eq1 (app_out1 ht h2).symm
    · have h1 : memB (2 * x) s.W = false := by simpa using h1
      rw [app_out1 (F := app F t) hs h1]; exact app_eq1 (app_out1 hs h1)
  · funext x
    by_cases h1 : memB (2 * x + 1) s.W = true
    · have h2 := disj_ok h h1
      rw [app_out2 ht h2]; exact app_eq2 (app_out2 ht h2).symm
    · have h1 : memB (2 * x + 1) s.W = false := by simpa using h1
      rw [app_out2 (F := app F t) hs h1]; exact app_eq2 (app_out2 hs h1)

theorem countP_lt {p p' : Nat → Bool} {l : List Nat} {i : Nat} (hi : i ∈ l) (h1 : p i = true) (h2 : p' i = false) (h : ∀ k, p' k = true → p k = true) : l.countP p' < l.countP p := by
  induction l with
  | nil => cases hi
  | cons x l ih =>
    have hle : l.countP p' ≤ l.countP p := List.countP_mono_left fun k _ => h k
    rcases List.mem_cons.1 hi with rfl | hi
    · rw [List.countP_cons, List.countP_cons, if_neg (by simp [h2]), if_pos h1]; omega
    · have := ih hi
      rw [List.countP_cons, List.countP_cons]
      by_cases hx : p' x = true
      · rw [if_pos hx, if_pos (h x hx)]; omega
      · rw [if_neg hx]; split <;> omega

section
variable {P : Program} {N : Nat} {ops : Array Oper} {S : Nat → Stp} {F0 : Fs} {Q : Exit → Act → World → Prop} {w0 : Base}

/-- what the steps of a region must meet. -/
structure Good (P : Program) (N : Nat) (ops : Array Oper) (F0 : Fs) (S : Nat → Stp) : Prop where
  op : ∀ i, i < ops.size → ops[i]? = some (S i).o
  cov : ∀ i, i < ops.size → covers (S i)
  sub : ∀ i, i < ops.size → ∀ x, memB x (S i).W = true → memB x (S i).L = true
  free : ∀ i k, k < i → i < ops.size → bit (S i).m k = true ∨ (disj (S k).W (S i).L = true ∧ disj (S i).W (S k).L = true)
  mask : ∀ i k, i < ops.size → bit (S i).m k = true → ∃ e ∈ (S i).o.after, Region.binds .any e = true ∧ (e.on = k ∨ (e.on < i ∧ bit (S e.on).m k = true))
  edge : ∀ i, i < ops.size → ∀ e ∈ (S i).o.after, Region.binds .any e = true → e.on < i
  step : ∀ i, i < ops.size → ∀ F, agree (S i).L F (lex F0 S i) → ∀ (w0 : Base) (a : Act) (w : World) (K : Act → World → Prop) (Q : Exit → Act → World → Prop), R w0 N F.1 F.2 a w → (∀ a' w', R w0 N (app F (S i)).1 (app F (S i)).2 a' w' → K a' w') → wpOp P ops Q i K a w

def Closed (ops : Array Oper) (S : Nat → Stp) (D : Nat → Bool) : Prop := ∀ i, i < ops.size → D i = true → ∀ e ∈ (S i).o.after, Region.binds .any e = true → D e.on = true

theorem mask_in (hG : Good P N ops F0 S) {D : Nat → Bool} (hD : Closed ops S D) : ∀ i, i < ops.size → (∀ e ∈ (S i).o.after, Region.binds .any e = true → D e.on = true) → ∀ k, bit (S i).m k = true → D k = true := by
  intro i
  induction i using Nat.strongRecOn with
  | _ i ih =>
    intro hi hc k hk
    obtain ⟨e, he, hb, h⟩ := hG.mask i k hi hk
    rcases h with rfl | ⟨hlt, h⟩
    · exact hc e he hb
    · exact ih e.on hlt (by omega) (hD e.on (by omega) (hc e he hb)) k h

theorem gd_agree (hG : Good P N ops F0 S) {D : Nat → Bool} (hD : Closed ops S D) {i : Nat} (hi : i < ops.size) (hni : D i = false) (hr : ∀ e ∈ (S i).o.after, Region.binds .any e = true → D e.on = true) : ∀ k, k ≤ ops.size → agree (S i).L (gd F0 S D k) (lex F0 S (min k i)) := by
  intro k
  induction k with
  | zero => intro _; rw [Nat.zero_min]; exact ⟨fun _ _ => rfl, fun _ _ => rfl⟩
  | succ k ih =>
    intro hk
    have ih := ih (by omega)
    simp only [gd]
    by_cases hlt : k < i
    · rw [show min (k + 1) i = k + 1 by omega]
      rw [show min k i = k by omega] at ih
      by_cases hd : D k = true
      · rw [if_pos hd]; exact app_agree ih
      · rw [if_neg hd]
        rcases hG.free i k hlt hi with hb | ⟨h1, h2⟩
        · exact absurd (mask_in hG hD i hi hr k hb) hd
        · exact app_away (hG.cov k (by omega)) h1 ih
    · rw [show min (k + 1) i = i by omega]
      rw [show min k i = i by omega] at ih
      by_cases hd : D k = true
      · rw [if_pos hd]
        have hne : k ≠ i := fun e => by subst e; rw [hni] at hd; cases hd
        rcases hG.free k i (by omega) (by omega) with hb | ⟨h1, h2⟩
        · have := mask_in hG hD k (by omega) (hD k (by omega) hd) i hb
          rw [hni] at this; cases this
        · exact (app_away (hG.cov k (by omega)) h2 ih.symm).symm
      · rw [if_neg hd]; exact ih

theorem gd_step (hG : Good P N ops F0 S) {D D' : Nat → Bool} (hD : Closed ops S D) {i : Nat} (hi : i < ops.size) (hni : D i = false) (hD' : ∀ k, D' k = if k = i then true else D k) : ∀ k, k ≤ ops.size → gd F0 S D' k = if i < k then app (gd F0 S D k) (S i) else gd F0 S D k := by
  intro k
  induction k with
  | zero => intro _; rfl
  | succ k ih =>
    intro hk
    have ih := ih (by omega)
    simp only [gd]
    rw [hD' k]
    by_cases hki : k = i
    · subst hki
      rw [if_pos rfl, if_pos rfl, if_pos (Nat.lt_succ_self k), if_neg (by rw [hni]; simp)]
      rw [ih, if_neg (Nat.lt_irrefl k)]
    · rw [if_neg hki]
      by_cases hd : D k = true
      · rw [if_pos hd, if_pos hd, ih]
        by_cases hlt : i < k
        · rw [if_pos hlt, if_pos (by omega)]
          refine app_comm (hG.cov i hi) (hG.cov k (by omega)) ?_
          rcases hG.free k i hlt (by omega) with hb | ⟨h1, h2⟩
          · have := mask_in hG hD k (by omega) (hD k (by omega) hd) i hb
            rw [hni] at this; cases this
          · have key : ∀ l : List Nat, (∀ x, memB x l = true → memB x (S k).L = false) → disj l (S k).W = true := by
              intro l
              induction l with
              | nil => intro _; rfl
              | cons y l ihl =>
                intro hl
                simp only [disj]
                have h3 : memB y (S k).W = false := by
                  cases hb : memB y (S k).W with
                  | false => rfl
                  | true =>
                    have h4 := hG.sub k (by omega) y hb
                    rw [hl y (by simp [memB, beq_iff.2])] at h4; cases h4
                rw [h3]
                exact ihl fun x hx => hl x (by simp only [memB]; cases Nat.beq y x <;> simp [hx])
            exact key _ fun x hx => disj_ok h1 hx
        · rw [if_neg hlt, if_neg (by omega)]
      · rw [if_neg hd, if_neg hd, ih]
        by_cases hlt : i < k
        · rw [if_pos hlt, if_pos (by omega)]
        · rw [if_neg hlt, if_neg (by omega)]

theorem gd_all {D : Nat → Bool} : ∀ k, (∀ i, i < k → D i = true) → gd F0 S D k = lex F0 S k
  | 0, _ => rfl
  | k + 1, h => by simp only [gd, lex]; rw [if_pos (h k (by omega)), gd_all k fun i hi => h i (by omega)]

theorem any_ok (hG : Good P N ops F0 S) (hQ : ∀ a w, R w0 N (lex F0 S ops.size).1 (lex F0 S ops.size).2 a w → Q .normal a w) : ∀ (fuel : Nat) (listed : Array Bool) (a : Act) (w : World), listed.size = ops.size → Closed ops S (fun i => listed.getD i false) →
    (List.range ops.size).countP (fun i => !listed.getD i false) ≤ fuel → R w0 N (gd F0 S (fun i => listed.getD i false) ops.size).1 (gd F0 S (fun i => listed.getD i false) ops.size).2 a w → wpAny P .any ops Q fuel listed a w := by
  have done : ∀ (listed : Array Bool), listed.size = ops.size → Region.ready .any ops listed = [] → ∀ i, i < ops.size → listed.getD i false = true := fun listed hs hr => by
    intro i
    induction i using Nat.strongRecOn with
    | _ i ih =>
      intro hi
      cases hl : listed.getD i false with
      | true => rfl
      | false =>
        exfalso
        have : i ∈ Region.ready .any ops listed := mem_ready.2 ⟨by
          have hi' : i < listed.size := by omega
          simp only [Array.getD_eq_getD_getElem?, Array.getElem?_eq_getElem hi', Option.getD_some] at hl ⊢; exact hl, (S i).o, hG.op i hi, fun e he hb => by
            have h1 := hG.edge i hi e he hb
            exact ih e.on h1 (by omega)⟩
        rw [hr] at this; cases this
  intro fuel
  induction fuel with
  | zero =>
    intro listed a w hs hcl hc hR
    have hall : ∀ i, i < ops.size → listed.getD i false = true := fun i hi => by
      have h1 : (List.range ops.size).countP (fun i => !listed.getD i false) = 0 := by omega
      rw [List.countP_eq_zero] at h1
      simpa using h1 i (List.mem_range.2 hi)
    refine ⟨?_, hQ a w ?_⟩
    · rw [List.eq_nil_iff_forall_not_mem]
      intro i hi
      obtain ⟨h1, oo, ho, _⟩ := mem_ready.1 hi
      have hi' : i < ops.size := by
        rcases Nat.lt_or_ge i ops.size with h | h
        · exact h
        · rw [Array.getElem?_eq_none h] at ho; cases ho
      have h2 := hall i hi'
      have hi'' : i < listed.size := by omega
      simp only [Array.getD_eq_getD_getElem?, Array.getElem?_eq_getElem hi'', Option.getD_some] at h1 h2
      rw [h1] at h2; cases h2
    · rw [gd_all _ fun i hi => hall i hi] at hR; exact hR
  | succ fuel ih =>
    intro listed a w hs hcl hc hR
    refine ⟨fun h0 => hQ a w ?_, fun i hi => ?_⟩
    · rw [gd_all _ fun i hi => done listed hs h0 i hi] at hR; exact hR
    · obtain ⟨h1, oo, ho, hall⟩ := mem_ready.1 hi
      have hi' : i < ops.size := by
        rcases Nat.lt_or_ge i ops.size with h | h
        · exact h
        · rw [Array.getElem?_eq_none h] at ho; cases ho
      have hi'' : i < listed.size := by omega
      have hni : listed.getD i false = false := by
        simp only [Array.getD_eq_getD_getElem?, Array.getElem?_eq_getElem hi'', Option.getD_some] at h1 ⊢; exact h1
      have hoo : oo = (S i).o := by rw [hG.op i hi'] at ho; cases ho; rfl
      subst hoo
      have hset : ∀ k, (listed.setIfInBounds i true).getD k false = if k = i then true else listed.getD k false := fun k => by
        simp only [Array.getD_eq_getD_getElem?, Array.getElem?_setIfInBounds]
        by_cases e : i = k
        · subst e; simp [hi'']
        · rw [if_neg e, if_neg (fun h => e h.symm)]
      refine hG.step i hi' (gd F0 S (fun i => listed.getD i false) ops.size) ?_ w0 a w _ Q hR fun a' w' hR' => ih _ a' w' (by simp [hs]) ?_ ?_ ?_
      · have := gd_agree hG hcl hi' hni hall ops.size (Nat.le_refl _)
        rwa [show min ops.size i = i by omega] at this
      · intro j hj hdj e he hb
        simp only [hset] at hdj ⊢
        split
        · rfl
        · split at hdj
          · rename_i hji; subst hji; exact hall e he hb
          · exact hcl j hj hdj e he hb
      · have := countP_lt (p := fun k => !listed.getD k false) (p' := fun k => !(listed.setIfInBounds i true).getD k false) (l := List.range ops.size) (i := i) (List.mem_range.2 hi') (by simp only [hni]; rfl) (by simp only [hset]; simp) (fun k hk => by
          simp only [hset] at hk
          split at hk
          · simp at hk
          · exact hk)
        omega
      · have := gd_step (F0 := F0) hG hcl hi' hni hset ops.size (Nat.le_refl _)
        rw [if_pos hi'] at this
        rw [this]; exact hR'
end
end Go.Proofs.YtalkkenkeilmpaaGreat.Ev
