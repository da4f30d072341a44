/- Regions that draw; code; loops; functions. -/
import Derived.Test.YtalkkenkeilmpaaGreatEv11
namespace Go.Proofs.YtalkkenkeilmpaaGreat.Ev
open Go Go.RowKit
set_option linter.unusedVariables false
set_option linter.unusedSimpArgs false

theorem bit_test {m k : Nat} : bit m k = true ↔ m.testBit k = true := by
  unfold bit
  rw [beq_iff]
  show (m >>> k) % 2 = 1 ↔ _
  rw [Nat.testBit_eq_decide_div_mod_eq, Nat.shiftRight_eq_div_pow]
  simp
theorem maskOf_ok {H : List Ent} {l : List Edge} {k : Nat} (h : bit (maskOf H l) k = true) : ∃ e ∈ l, Region.binds .any e = true ∧ (e.on = k ∨ ∃ t, H[e.on]? = some t ∧ bit t.m k = true) := by
  induction l with
  | nil =>
    rw [bit_test] at h
    simp [maskOf] at h
  | cons e l ih =>
    simp only [maskOf] at h
    split at h
    · rename_i hb
      rw [bit_test] at h
      have h : ((1 <<< e.on ||| maskAt H e.on) ||| maskOf H l).testBit k = true := h
      rw [Nat.testBit_or, Nat.testBit_or, Bool.or_eq_true, Bool.or_eq_true] at h
      rcases h with (h | h) | h
      · refine ⟨e, List.mem_cons_self, hb, .inl ?_⟩
        rw [Nat.one_shiftLeft, Nat.testBit_two_pow] at h
        simpa using h
      · refine ⟨e, List.mem_cons_self, hb, .inr ?_⟩
        unfold maskAt at h
        split at h
        · rename_i t ht; exact ⟨t, ht, bit_test.2 h⟩
        · simp at h
      · obtain ⟨e', he', r⟩ := ih (bit_test.2 h)
        exact ⟨e', List.mem_cons_of_mem _ he', r⟩
    · obtain ⟨e', he', r⟩ := ih h
      exact ⟨e', List.mem_cons_of_mem _ he', r⟩
theorem edgesOk_ok {i : Nat} {l : List Edge} (h : edgesOk i l = true) : ∀ e ∈ l, Region.binds .any e = true → e.on < i := by
  induction l with
  | nil => intro e he; cases he
  | cons x l ih =>
    simp only [edgesOk] at h
    intro e he hb
    split at h
    · split at h
      · rename_i hle
        rcases List.mem_cons.1 he with rfl | he
        · exact Nat.le_of_ble_eq_true hle
        · exact ih h e he hb
      · cases h
    · rename_i hx
      rcases List.mem_cons.1 he with rfl | he
      · rw [hb] at hx; cases hx
      · exact ih h e he hb
theorem chk_ok {m : Nat} {L W : List Nat} : ∀ {H : List Ent} {k : Nat}, chk m L W k H = true → ∀ (j : Nat) (t : Ent), H[j]? = some t → bit m (k + j) = true ∨ (disj t.W L = true ∧ disj W t.L = true)
  | [], k, h, j, t, ht => by simp at ht
  | x :: H, k, h, j, t, ht => by
    simp only [chk] at h
    cases hb : bit m k with
    | true =>
      rw [hb] at h
      cases j with
      | zero => exact .inl hb
      | succ j => have := chk_ok h j t (by simpa using ht); rwa [show k + 1 + j = k + (j + 1) by omega] at this
    | false =>
      rw [hb] at h
      simp only at h
      split at h
      · rename_i h1 h2
        cases j with
        | zero => simp at ht; subst ht; exact .inr ⟨h1, h2⟩
        | succ j => have := chk_ok h j t (by simpa using ht); rwa [show k + 1 + j = k + (j + 1) by omega] at this
      · cases h

theorem memB_app {x : Nat} {a b : List Nat} : memB x (a ++ b) = (memB x a || memB x b) := by
  induction a with
  | nil => rfl
  | cons y a ih => simp only [List.cons_append, memB]; cases Nat.beq y x <;> simp [ih]
theorem memB_keys {bs : Bxs} {id : Nat} (h : getB bs id ≠ none) : memB (2 * id + 1) (keysB bs) = true := by
  induction bs with
  | nil => exact absurd rfl h
  | cons x bs ih =>
    obtain ⟨k, v⟩ := x
    simp only [getB] at h
    simp only [keysB, memB]
    cases hk : Nat.beq k id with
    | true => rw [beq_iff] at hk; subst hk; rw [beq_iff.2 rfl]
    | false =>
      rw [hk] at h
      rw [ih h]
      cases Nat.beq (2 * k + 1) (2 * id + 1) <;> rfl

def dOper : Oper := { dst := none, op := .ready 0, type := 0, pos := "", after := #[], guard := none }
def dStp : Stp := ⟨dOper, ⟨.dead, []⟩, [], [], 0⟩
def Sof (T : List Stp) (k : Nat) : Stp := T.getD k dStp
theorem Sof_app {T : List Stp} {s : Stp} {k : Nat} (h : k < T.length) : Sof (T ++ [s]) k = Sof T k := by
  simp [Sof, List.getElem?_append_left h]
theorem Sof_last {T : List Stp} {s : Stp} : Sof (T ++ [s]) T.length = s := by
  simp [Sof]
theorem lex_congr {F0 : Fs} {S S' : Nat → Stp} : ∀ n, (∀ k, k < n → S k = S' k) → lex F0 S n = lex F0 S' n
  | 0, _ => rfl
  | n + 1, h => by simp only [lex]; rw [lex_congr n fun k hk => h k (by omega), h n (by omega)]

section
variable {P : Program} {N : Nat} {ops : Array Oper} {F0 : Fs}

structure Pre (P : Program) (N : Nat) (ops : Array Oper) (F0 : Fs) (T : List Stp) : Prop where
  cov : ∀ (i : Nat) (s : Stp), T[i]? = some s → covers s
  sub : ∀ (i : Nat) (s : Stp), T[i]? = some s → ∀ x, memB x s.W = true → memB x s.L = true
  free : ∀ (i k : Nat) (s t : Stp), k < i → T[i]? = some s → T[k]? = some t → bit s.m k = true ∨ (disj t.W s.L = true ∧ disj s.W t.L = true)
  mask : ∀ (i k : Nat) (s : Stp), T[i]? = some s → bit s.m k = true → ∃ e ∈ s.o.after, Region.binds .any e = true ∧ (e.on = k ∨ ∃ t, e.on < i ∧ T[e.on]? = some t ∧ bit t.m k = true)
  edge : ∀ (i : Nat) (s : Stp), T[i]? = some s → ∀ e ∈ s.o.after, Region.binds .any e = true → e.on < i
  step : ∀ (i : Nat) (s : Stp), T[i]? = some s → ∀ F, agree s.L F (lex F0 (Sof T) i) → ∀ (w0 : Base) (a : Act) (w : World) (K : Act → World → Prop) (Q : Exit → Act → World → Prop), R w0 N F.1 F.2 a w → (∀ a' w', R w0 N (app F s).1 (app F s).2 a' w' → K a' w') → wpOp P ops Q i K a w

theorem Pre.snoc {T : List Stp} (h : Pre P N ops F0 T) {s : Stp} (h1 : covers s) (h2 : ∀ x, memB x s.W = true → memB x s.L = true)
    (h3 : ∀ (k : Nat) (t : Stp), T[k]? = some t → bit s.m k = true ∨ (disj t.W s.L = true ∧ disj s.W t.L = true))
    (h4 : ∀ k, bit s.m k = true → ∃ e ∈ s.o.after, Region.binds .any e = true ∧ (e.on = k ∨ ∃ t, T[e.on]? = some t ∧ bit t.m k = true))
    (h5 : ∀ e ∈ s.o.after, Region.binds .any e = true → e.on < T.length)
    (h6 : ∀ F, agree s.L F (lex F0 (Sof T) T.length) → ∀ (w0 : Base) (a : Act) (w : World) (K : Act → World → Prop) (Q : Exit → Act → World → Prop), R w0 N F.1 F.2 a w → (∀ a' w', R w0 N (app F s).1 (app F s).2 a' w' → K a' w') → wpOp P ops Q T.length K a w) : Pre P N ops F0 (T ++ [s]) := by
  have cas : ∀ (i : Nat) (x : Stp), (T ++ [s])[i]? = some x → T[i]? = some x ∧ i < T.length ∨ (i = T.length ∧ x = s) := fun i x hx => by
    by_cases hi : i < T.length
    · rw [List.getElem?_append_left hi] at hx; exact .inl ⟨hx, hi⟩
    · rw [List.getElem?_append_right (by omega)] at hx
      have : i - T.length = 0 := by
        cases hh : i - T.length with
        | zero => rfl
        | succ n => rw [hh] at hx; simp at hx
      rw [this] at hx; simp at hx; exact .inr ⟨by omega, hx.symm⟩
  have up : ∀ (i : Nat) (x : Stp), T[i]? = some x → (T ++ [s])[i]? = some x := fun i x hx => by
    have := (List.getElem?_eq_some_iff.1 hx).1
    rw [List.getElem?_append_left this]; exact hx
  refine ⟨fun i x hx => ?_, fun i x hx => ?_, fun i k x t hki hx ht => ?_, fun i k x hx hb => ?_, fun i x hx => ?_, fun i x hx F hF => ?_⟩
  · rcases cas i x hx with ⟨h', _⟩ | ⟨_, rfl⟩
    · exact h.cov i x h'
    · exact h1
  · rcases cas i x hx with ⟨h', _⟩ | ⟨_, rfl⟩
    · exact h.sub i x h'
    · exact h2
  · rcases cas i x hx with ⟨h', hi⟩ | ⟨hi, rfl⟩
    · rcases cas k t ht with ⟨h'', _⟩ | ⟨hk, rfl⟩
      · exact h.free i k x t hki h' h''
      · omega
    · rcases cas k t ht with ⟨h'', _⟩ | ⟨hk, rfl⟩
      · exact h3 k t h''
      · omega
  · rcases cas i x hx with ⟨h', hi⟩ | ⟨hi, rfl⟩
    · obtain ⟨e, he, hb', hh⟩ := h.mask i k x h' hb
      exact ⟨e, he, hb', hh.imp id fun ⟨t, h1, h2, h3⟩ => ⟨t, h1, up _ _ h2, h3⟩⟩
    · obtain ⟨e, he, hb', hh⟩ := h4 k hb
      exact ⟨e, he, hb', hh.imp id fun ⟨t, h1, h3⟩ => ⟨t, by rw [hi]; exact (List.getElem?_eq_some_iff.1 h1).1, up _ _ h1, h3⟩⟩
  · rcases cas i x hx with ⟨h', hi⟩ | ⟨hi, rfl⟩
    · exact h.edge i x h'
    · rw [hi]; exact h5
  · rcases cas i x hx with ⟨h', hi⟩ | ⟨hi, rfl⟩
    · rw [lex_congr i (S' := Sof T) fun k hk => Sof_app (by omega)] at hF
      exact h.step i x h' F hF
    · subst hi
      rw [lex_congr T.length (S' := Sof T) fun k hk => Sof_app hk] at hF
      exact h6 F hF

theorem Pre.good {T : List Stp} (h : Pre P N ops F0 T) (ho : T.map (·.o) = ops.toList) : Good P N ops F0 (Sof T) := by
  have hlen : T.length = ops.size := by have := congrArg List.length ho; simpa using this
  have hS : ∀ i, i < ops.size → T[i]? = some (Sof T i) := fun i hi => by
    have hi' : i < T.length := by omega
    simp [Sof, List.getElem?_eq_getElem hi']
  refine ⟨fun i hi => ?_, fun i hi => h.cov i _ (hS i hi), fun i hi => h.sub i _ (hS i hi), fun i k hki hi => h.free i k _ _ hki (hS i hi) (hS k (by omega)), fun i k hi hb => ?_, fun i hi => h.edge i _ (hS i hi), fun i hi => h.step i _ (hS i hi)⟩
  · have h1 := congrArg (fun l => l[i]?) ho
    simp only [List.getElem?_map, hS i hi, Option.map_some, Array.getElem?_toList] at h1
    exact h1.symm
  · obtain ⟨e, he, hb', hh⟩ := h.mask i k _ (hS i hi) hb
    refine ⟨e, he, hb', hh.imp id fun ⟨t, h1, h2, h3⟩ => ⟨h1, ?_⟩⟩
    rw [hS e.on (by omega)] at h2; cases h2; exact h3

variable {ρ : Type} {cx : Cx ρ} {r : ρ}

theorem evDraw_ok (hP : cx.P = P) (hC : CallsOk P cx) : ∀ (l : List Oper) (T : List Stp) (H : List Ent) (st : S2) (K : S2 → Option ρ), (∀ o ∈ l, ∀ d, o.dst = some d → d < N) → Pre P N ops F0 T → T.map (·.o) ++ l = ops.toList → H = T.map (fun s => ⟨s.L, s.W, s.m⟩) →
    lex F0 (Sof T) T.length = (get st.1, getB st.2) → evDraw cx ops l H st K = some r → ∃ T' st', Pre P N ops F0 T' ∧ T'.map (·.o) = ops.toList ∧ lex F0 (Sof T') T'.length = (get st'.1, getB st'.2) ∧ K st' = some r
  | [], T, H, st, K, hd, hpre, ho, hH, hl, h => ⟨T, st, hpre, by simpa using ho, hl, h⟩
  | o :: l, T, H, st, K, hd, hpre, ho, hH, hl, h => by
    simp only [evDraw] at h
    obtain ⟨want, st1, h, e1, e2, hg⟩ := evGuard_ok h
    have hoi : ops[T.length]? = some o := by
      have := congrArg (fun l => l[T.length]?) ho
      simpa [List.getElem?_append_right] using this.symm
    have hHlen : H.length = T.length := by rw [hH]; simp
    split at h
    · cases h
    · rename_i hedge
      rw [hHlen] at hedge
      have hge : ∀ (L : List Nat), (∀ x, memB x (guardLoc ops o) = true → memB x L = true) → ∀ F : Fs, agree L F (get st.1, getB st.2) → ∀ j wt d, o.guard = some (j, wt) → guardSlot ops j = some d → F.1 d = get st.1 d := fun L hsub F hF j wt d h1 h2 => hF.1 d (hsub _ (by simp [guardLoc, h1, h2, memB, beq_iff.2]))
      have hmask : ∀ (s : Stp), s.o = o → s.m = maskOf H o.after.toList → ∀ k, bit s.m k = true → ∃ e ∈ s.o.after, Region.binds .any e = true ∧ (e.on = k ∨ ∃ t, T[e.on]? = some t ∧ bit t.m k = true) := fun s hs hm k hb => by
        rw [hm] at hb
        obtain ⟨e, he, hb', hh⟩ := maskOf_ok hb
        refine ⟨e, by rw [hs]; simpa using he, hb', hh.imp id fun ⟨t, h1, h2⟩ => ?_⟩
        rw [hH, List.getElem?_map] at h1
        cases ht : T[e.on]? with
        | none => rw [ht] at h1; cases h1
        | some x => rw [ht] at h1; cases h1; exact ⟨x, rfl, h2⟩
      have hchk : ∀ (m : Nat) (L W : List Nat), chk m L W 0 H = true → ∀ (k : Nat) (t : Stp), T[k]? = some t → bit m k = true ∨ (disj t.W L = true ∧ disj W t.L = true) := fun m L W hc k t ht => by
        have := chk_ok hc k ⟨t.L, t.W, t.m⟩ (by rw [hH, List.getElem?_map, ht]; rfl)
        simpa using this
      have hE : ∀ e ∈ o.after, Region.binds .any e = true → e.on < T.length := fun e he hb => edgesOk_ok hedge e (by simpa using he) hb
      have hdO := hd o List.mem_cons_self
      cases want with
      | true =>
        simp only at h
        obtain ⟨u, h, hu⟩ := evOp_ok hP hC hdO h
        generalize hL0 : guardLoc ops o ++ opdLoc (get st1.1) o.op.operands.toList ++ dstLoc o.dst = L0 at h hu
        split at h
        · rename_i hc
          have hnew : lex F0 (Sof (T ++ [(⟨o, u, keysB u.bs ++ L0, keysB u.bs ++ dstLoc o.dst, maskOf H o.after.toList⟩ : Stp)])) (T ++ [(⟨o, u, keysB u.bs ++ L0, keysB u.bs ++ dstLoc o.dst, maskOf H o.after.toList⟩ : Stp)]).length = (get (put st1 o.dst u).1, getB (put st1 o.dst u).2) := by
            rw [List.length_append, List.length_singleton]
            simp only [lex]
            rw [lex_congr T.length (S' := Sof T) fun k hk => Sof_app hk, hl, Sof_last, get_put, getB_put, e1, e2]
            rfl
          refine evDraw_ok hP hC l (T ++ [(⟨o, u, keysB u.bs ++ L0, keysB u.bs ++ dstLoc o.dst, maskOf H o.after.toList⟩ : Stp)]) _ _ K (fun o ho => hd o (List.mem_cons_of_mem _ ho)) (hpre.snoc (s := ⟨o, u, keysB u.bs ++ L0, keysB u.bs ++ dstLoc o.dst, maskOf H o.after.toList⟩) ⟨fun d hdd => ?_, fun id hid => ?_⟩ (fun x hx => ?_) (hchk _ _ _ hc) (hmask _ rfl rfl) hE ?_) (by simpa using ho) (by rw [hH]; simp) hnew h
          · rw [memB_app, hdd]; simp [dstLoc, memB, beq_iff.2]
          · rw [memB_app, memB_keys hid]; rfl
          · rw [memB_app] at hx ⊢
            rw [← hL0, memB_app]
            cases h1 : memB x (keysB u.bs) <;> simp_all
          · intro F hF w0 a w K' Q hR hK'
            rw [hl] at hF
            have hw := wanted_of (st := st) hR hg (hge _ (fun x hx => by simp [memB_app, ← hL0, hx]) F hF)
            unfold wpOp
            rw [hoi]
            simp only
            rw [if_pos hw]
            refine .inl (hu F.1 F.2 ⟨fun s hs => ?_, fun id x hx => ?_, fun d hdd hb => ?_⟩ w0 a w K' Q hR hK')
            · unfold restr at hs ⊢
              cases hm : memB (2 * s) L0 with
              | false => rw [hm] at hs; exact absurd rfl hs
              | true => rw [hF.1 s (by rw [memB_app, hm, Bool.or_true]), e1]
            · unfold restrB at hx
              cases hm : memB (2 * id + 1) L0 with
              | false => rw [hm] at hx; cases hx
              | true => rw [hm] at hx; rw [hF.2 id (by rw [memB_app, hm, Bool.or_true])]; rw [e2] at hx; exact hx
            · unfold restrB at hb
              have hm : memB (2 * d + 1) L0 = true := by
                rw [← hL0, memB_app, hdd]
                have : memB (2 * d + 1) (dstLoc (some d)) = true := by
                  simp only [dstLoc, memB, beq_iff.2]
                  cases Nat.beq (2 * d) (2 * d + 1) <;> rfl
                rw [this, Bool.or_true]
              rw [hm] at hb
              rw [hF.2 d (by rw [memB_app, hm, Bool.or_true])]; rw [e2] at hb; exact hb
        · cases h
      | false =>
        simp only at h
        split at h
        · rename_i hc
          have hnew : lex F0 (Sof (T ++ [(⟨o, skipU, guardLoc ops o ++ dstLoc o.dst, dstLoc o.dst, maskOf H o.after.toList⟩ : Stp)])) (T ++ [(⟨o, skipU, guardLoc ops o ++ dstLoc o.dst, dstLoc o.dst, maskOf H o.after.toList⟩ : Stp)]).length = (get (put st1 o.dst skipU).1, getB (put st1 o.dst skipU).2) := by
            rw [List.length_append, List.length_singleton]
            simp only [lex]
            rw [lex_congr T.length (S' := Sof T) fun k hk => Sof_app hk, hl, Sof_last, get_put, getB_put, e1, e2]
            rfl
          refine evDraw_ok hP hC l (T ++ [(⟨o, skipU, guardLoc ops o ++ dstLoc o.dst, dstLoc o.dst, maskOf H o.after.toList⟩ : Stp)]) _ _ K (fun o ho => hd o (List.mem_cons_of_mem _ ho)) (hpre.snoc (s := ⟨o, skipU, guardLoc ops o ++ dstLoc o.dst, dstLoc o.dst, maskOf H o.after.toList⟩) ⟨fun d hdd => ?_, fun id hid => ?_⟩ (fun x hx => ?_) (hchk _ _ _ hc) (hmask _ rfl rfl) hE ?_) (by simpa using ho) (by rw [hH]; simp) hnew h
          · have hdd : o.dst = some d := hdd
            show memB (2 * d) (dstLoc o.dst) = true
            rw [hdd]; simp [dstLoc, memB, beq_iff.2]
          · exact absurd rfl hid
          · rw [memB_app, hx, Bool.or_true]
          · intro F hF w0 a w K' Q hR hK'
            rw [hl] at hF
            have hw := wanted_of (st := st) hR hg (hge _ (fun x hx => by simp [memB_app, hx]) F hF)
            unfold wpOp
            rw [hoi]
            simp only
            rw [hw, if_neg (by simp)]
            exact hK' _ _ (hR.skip hdO)
        · cases h

theorem region_draw_ok (hP : cx.P = P) (hm : P.follows .mixedOrders = true) (hC : CallsOk P cx) {st : S2} {K : S2 → Option ρ} (hd : ∀ o ∈ ops.toList, ∀ d, o.dst = some d → d < N) (h : evDraw cx ops ops.toList [] st K = some r) (id : Nat) :
    ∃ st', K st' = some r ∧ ∀ (w0 : Base) (a : Act) (w : World) (Q : Exit → Act → World → Prop), R w0 N (get st.1) (getB st.2) a w → (∀ a' w', R w0 N (get st'.1) (getB st'.2) a' w' → Q .normal a' w') → (Code.region id ops true).wp P Q a w := by
  obtain ⟨T, st', hpre, ho, hl, hK⟩ := evDraw_ok (ops := ops) (F0 := (get st.1, getB st.2)) hP hC ops.toList [] [] st K hd ⟨fun i s h => by simp at h, fun i s h => by simp at h, fun i k s t _ h => by simp at h, fun i k s h => by simp at h, fun i s h => by simp at h, fun i s h => by simp at h⟩ rfl rfl rfl h
  refine ⟨st', hK, fun w0 a w Q hR hQ => wp_region_any hm ?_⟩
  have hG := hpre.good ho
  have hlen : T.length = ops.size := by have := congrArg List.length ho; simpa using this
  have hR' : R w0 N (get st.1) (getB st.2) a { w with drawn := w.drawn + 1 } := by
    obtain ⟨ro, β, h⟩ := hR
    refine ⟨ro, β, ⟨⟨h.below.os, h.below.tape, h.below.output, h.below.size, h.below.block, Nat.le_trans h.below.drawn (Nat.le_succ _)⟩, fun s => RepS.mono (w := w) (w' := { w with drawn := w.drawn + 1 }) (fun _ h => h) (fun _ _ => rfl) (fun _ _ h => h) (h.slots s), fun id x hx => ?_, h.inj, h.free, h.roUp, h.roLt, h.βLt, h.defers, h.size, h.fix, h.lnk⟩⟩
    obtain ⟨k, hk, hb, ho⟩ := h.box id x hx
    exact ⟨k, hk, BoxRep.mono (w := w) (w' := { w with drawn := w.drawn + 1 }) hb (fun _ h => h) (fun _ _ => rfl) (fun _ _ => rfl), ho⟩
  have hgd : ∀ k, gd (get st.1, getB st.2) (Sof T) (fun i => (Array.replicate ops.size false).getD i false) k = (get st.1, getB st.2) := by
    intro k
    induction k with
    | zero => rfl
    | succ k ih =>
      simp only [gd]
      rw [if_neg, ih]
      simp [Array.getElem?_replicate]
      split <;> simp
  refine any_ok hG (fun a' w' hR'' => hQ a' w' ?_) ops.size _ a _ (by simp) (fun i hi h => ?_) (by rw [← List.length_range (n := ops.size)]; exact Nat.le_trans List.countP_le_length (by simp)) (by rw [hgd]; exact hR')
  · rw [← hlen, hl] at hR''; exact hR''
  · simp [Array.getElem?_replicate] at h
    split at h <;> simp at h
end
end Go.Proofs.YtalkkenkeilmpaaGreat.Ev
