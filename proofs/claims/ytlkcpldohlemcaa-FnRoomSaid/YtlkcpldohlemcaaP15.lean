/- Blame: both programs say the same, whole. -/
import Derived.Test.YtlkcpldohlemcaaP14
namespace Go.Proofs.Ytlkcpldohlemcaa.Q
open Go Go.RowKit Go.Proofs Go.Proofs.Ytlkcpldohlemcaa.Ev Go.Proofs.Ytlkcpldohlemcaa.G
set_option linter.unusedSimpArgs false
set_option linter.unusedVariables false

theorem l4_step {L : List S4} {s : Nat} (hs : s ≤ 4) {row : List Int} (hrow : ((List.range s).map fun (x : Nat) => (x : Int)) = row) {p : Option (List Int)} (h : Lv (fun q m => spec_Blame.l12 q m L (s : Int) (decide ((s : Int) ≤ (L.length : Int))) row) (pick p (fun r => .inl (((), ()), (r, ()))) (.inr ((L, (s : Int), ()), ())))) {v : spec_Blame.B4}
    (hy : ∀ r, p = some r → v = .inl (((), ()), (r, ()))) (hno : p = none → Lv (fun q n => spec_Blame.l4 q n L ((s + 1 : Nat) : Int)) v) : Lv (fun q n => spec_Blame.l4 q n L (s : Int)) v := by
  refine Lv.step (g := fun q n => spec_Blame.s4 q (spec_Blame.l4 q n) L (s : Int)) ?_ (fun _ _ => rfl)
  have w : W ((s : Int) + 1) = ((s + 1 : Nat) : Int) := by rw [W_small (by omega) (by omega)]; omega
  simp only [spec_Blame.s4, decide_eq_true_eq, if_pos (show (s : Int) ≤ 4 by omega)]
  refine Lv.bind (l8_ok hs s 0 (by omega) (by omega)).ev ?_
  simp only [hrow]
  refine Lv.bind h.ev ?_
  cases p with
  | some r => rw [hy r rfl]; exact .now fun _ _ => rfl
  | none => simp only [pick, w]; exact hno rfl
theorem l4_end {L : List S4} : Lv (fun q n => spec_Blame.l4 q n L ((4 + 1 : Nat) : Int)) (.inr ((), ())) := by
  refine Lv.step (g := fun q n => spec_Blame.s4 q (spec_Blame.l4 q n) L ((4 + 1 : Nat) : Int)) ?_ (fun _ _ => rfl)
  exact .now fun _ _ => by simp [spec_Blame.s4]
theorem p2_len {L : List S4} {r : List Int} (h : p2 L = some r) : r.length ≤ 4 := by
  unfold p2 at h
  obtain ⟨i, h⟩ := fnd_some h
  unfold b2_1 at h
  obtain ⟨j, h⟩ := fnd_some h
  unfold a2 at h
  split at h
  · cases h; simp
  · cases h
theorem p3_len {L : List S4} {r : List Int} (h : p3 L = some r) : r.length ≤ 4 := by
  unfold p3 at h
  obtain ⟨i, h⟩ := fnd_some h
  unfold b3_1 at h
  obtain ⟨j, h⟩ := fnd_some h
  unfold b3_2 at h
  obtain ⟨k, h⟩ := fnd_some h
  unfold a3 at h
  split at h
  · cases h; simp
  · cases h
theorem p4_len {L : List S4} {r : List Int} (h : p4 L = some r) : r.length ≤ 4 := by
  unfold p4 at h
  obtain ⟨i, h⟩ := fnd_some h
  unfold b4_1 at h
  obtain ⟨j, h⟩ := fnd_some h
  unfold b4_2 at h
  obtain ⟨k, h⟩ := fnd_some h
  unfold b4_3 at h
  obtain ⟨m, h⟩ := fnd_some h
  unfold a4 at h
  split at h
  · cases h; simp
  · cases h
def BlameR (L : List S4) (v : List Int) : Prop := v = [] ∨ (L.length ≤ 24 ∧ L.all okp = true ∧ opn L = false ∧ (p2 L = some v ∨ (p2 L = none ∧ (p3 L = some v ∨ (p3 L = none ∧ p4 L = some v)))))
theorem BlameR.len {L : List S4} {v : List Int} (h : BlameR L v) : v.length ≤ 4 := by
  rcases h with rfl | ⟨_, _, _, h | ⟨_, h | ⟨_, h⟩⟩⟩
  · simp
  · exact p2_len h
  · exact p3_len h
  · exact p4_len h
theorem Blame_vals {L : List S4} (hl : L.length ≤ 2097152) : ∃ v : List Int, BlameR L v ∧ Ev (fun q => spec_Blame.f q L) v ∧ Ev (fun q => impl_Blame.f q L) v := by
  simp only [spec_Blame.f, impl_Blame.f, decide_eq_true_eq]
  have R := l6Right_ev hl
  have PO := planesOk_ev hl
  by_cases c24 : L.length ≤ 24
  · simp only [show ¬ (L.length : Int) > 24 by omega, if_false]
    simp only [c24, decide_true, Bool.and_true] at R
    cases ha : L.all okp with
    | false => rw [ha] at R PO; exact ⟨[], .inl rfl, R.bind (.now fun _ => rfl), PO.bind (.now fun _ => rfl)⟩
    | true =>
      have hL : ∀ p ∈ L, okp p = true := fun p hp => List.all_eq_true.1 ha p hp
      rw [ha] at R PO
      have O1 := l6Open_ev hL hl
      have O2 := open_ev hL hl
      cases ho : opn L with
      | true =>
        rw [ho] at O1 O2
        refine ⟨[], .inl rfl, R.bind ?_, PO.bind ?_⟩
        · simp only [Bool.not_true, Bool.false_eq_true, if_false]; exact O1.bind (.now fun _ => rfl)
        · simp only [Bool.not_true, Bool.false_eq_true, if_false]; exact O2.bind (.now fun _ => rfl)
      | false =>
        rw [ho] at O1 O2
        -- the search
        have S : ∃ r : spec_Blame.B4, Lv (fun q n => spec_Blame.l4 q n L ((2 : Nat) : Int)) r ∧ ((∃ x, r = .inl (((), ()), (x, ())) ∧ (p2 L = some x ∨ (p2 L = none ∧ (p3 L = some x ∨ (p3 L = none ∧ p4 L = some x))))) ∨ (r = .inr ((), ()) ∧ p2 L = none ∧ p3 L = none ∧ p4 L = none)) := by
          cases h2 : p2 L with
          | some x =>
            refine ⟨.inl (((), ()), (x, ())), l4_step (s := 2) (p := p2 L) (row := [0, 1]) (by omega) rfl (size2 hL c24) (fun r hr => by rw [h2] at hr; cases hr; rfl) (fun hr => by rw [h2] at hr; cases hr), .inl ⟨x, rfl, .inl rfl⟩⟩
          | none =>
            have hp := p2_none h2
            cases h3 : p3 L with
            | some x =>
              refine ⟨.inl (((), ()), (x, ())), l4_step (s := 2) (p := p2 L) (row := [0, 1]) (by omega) rfl (size2 hL c24) (fun r hr => by rw [h2] at hr; cases hr) (fun _ => l4_step (s := 3) (p := p3 L) (row := [0, 1, 2]) (by omega) rfl (size3 hL c24 hp) (fun r hr => by rw [h3] at hr; cases hr; rfl) (fun hr => by rw [h3] at hr; cases hr)), .inl ⟨x, rfl, .inr ⟨rfl, .inl rfl⟩⟩⟩
            | none =>
              have ht := p3_none h3
              cases h4 : p4 L with
              | some x =>
                refine ⟨.inl (((), ()), (x, ())), l4_step (s := 2) (p := p2 L) (row := [0, 1]) (by omega) rfl (size2 hL c24) (fun r hr => by rw [h2] at hr; cases hr) (fun _ => l4_step (s := 3) (p := p3 L) (row := [0, 1, 2]) (by omega) rfl (size3 hL c24 hp) (fun r hr => by rw [h3] at hr; cases hr) (fun _ => l4_step (s := 4) (p := p4 L) (row := [0, 1, 2, 3]) (by omega) rfl (size4 hL c24 hp ht) (fun r hr => by rw [h4] at hr; cases hr; rfl) (fun hr => by rw [h4] at hr; cases hr))), .inl ⟨x, rfl, .inr ⟨rfl, .inr ⟨rfl, rfl⟩⟩⟩⟩
              | none =>
                refine ⟨.inr ((), ()), l4_step (s := 2) (p := p2 L) (row := [0, 1]) (by omega) rfl (size2 hL c24) (fun r hr => by rw [h2] at hr; cases hr) (fun _ => l4_step (s := 3) (p := p3 L) (row := [0, 1, 2]) (by omega) rfl (size3 hL c24 hp) (fun r hr => by rw [h3] at hr; cases hr) (fun _ => l4_step (s := 4) (p := p4 L) (row := [0, 1, 2, 3]) (by omega) rfl (size4 hL c24 hp ht) (fun r hr => by rw [h4] at hr; cases hr) (fun _ => l4_end))), .inr ⟨rfl, rfl, rfl, rfl⟩⟩
        obtain ⟨r, hr, hcase⟩ := S
        have hpre : ∀ v : List Int, BlameR L v → Ev (fun q => (spec_Blame.l4 q q L 2).bind fun | .inl r9 => (some r9.2.1) | .inr x10 => (some ([] : List Int))) v → Ev (fun q => (impl_blamePairs.f q L).bind fun t3 => if t3.isEmpty = true then ((impl_blameTriples.f q L).bind fun t4 => if t4.isEmpty = true then ((impl_blameFours.f q L).bind fun t5 => some t5) else (if t4.isEmpty = true then none else (some t4))) else (if t3.isEmpty = true then none else (some t3))) v → ∃ v : List Int, BlameR L v ∧ Ev (fun q => (spec_l6Right.f q L).bind fun t1 => if (!t1) = true then (some ([] : List Int)) else ((spec_l6Open.f q L).bind fun t2 => if t2 = true then (some ([] : List Int)) else ((spec_Blame.l4 q q L 2).bind fun | .inl r9 => (some r9.2.1) | .inr x10 => (some ([] : List Int))))) v ∧ Ev (fun q => (impl_planesOk.f q L).bind fun t1 => if (!t1) = true then (some ([] : List Int)) else ((impl_open.f q L).bind fun t2 => if t2 = true then (some ([] : List Int)) else ((impl_blamePairs.f q L).bind fun t3 => if t3.isEmpty = true then ((impl_blameTriples.f q L).bind fun t4 => if t4.isEmpty = true then ((impl_blameFours.f q L).bind fun t5 => some t5) else (if t4.isEmpty = true then none else (some t4))) else (if t3.isEmpty = true then none else (some t3))))) v := fun v hv h1 h2 => by
          refine ⟨v, hv, R.bind ?_, PO.bind ?_⟩
          · simp only [Bool.not_true, Bool.false_eq_true, if_false]
            refine O1.bind ?_
            simp only [Bool.false_eq_true, if_false]; exact h1
          · simp only [Bool.not_true, Bool.false_eq_true, if_false]
            refine O2.bind ?_
            simp only [Bool.false_eq_true, if_false]; exact h2
        have B2 := blamePairs_ev hL hl
        have B3 := blameTriples_ev hL hl
        have B4 := blameFours_ev hL hl
        rcases hcase with ⟨x, rfl, h2 | ⟨h2, h3 | ⟨h3, h4⟩⟩⟩ | ⟨rfl, h2, h3, h4⟩
        · refine hpre x (.inr ⟨c24, ha, ho, .inl h2⟩) (hr.ev.bind (.now fun _ => rfl)) ?_
          rw [h2] at B2
          refine B2.bind ?_
          simp only [Option.getD_some, p2_ne h2, Bool.false_eq_true, if_false]; exact .now fun _ => rfl
        · refine hpre x (.inr ⟨c24, ha, ho, .inr ⟨h2, .inl h3⟩⟩) (hr.ev.bind (.now fun _ => rfl)) ?_
          rw [h2] at B2; rw [h3] at B3
          refine B2.bind ?_
          simp only [Option.getD_none, List.isEmpty_nil, if_true]
          refine B3.bind ?_
          simp only [Option.getD_some, p3_ne h3, Bool.false_eq_true, if_false]; exact .now fun _ => rfl
        · refine hpre x (.inr ⟨c24, ha, ho, .inr ⟨h2, .inr ⟨h3, h4⟩⟩⟩) (hr.ev.bind (.now fun _ => rfl)) ?_
          rw [h2] at B2; rw [h3] at B3; rw [h4] at B4
          refine B2.bind ?_
          simp only [Option.getD_none, List.isEmpty_nil, if_true]
          refine B3.bind ?_
          simp only [Option.getD_none, List.isEmpty_nil, if_true]
          exact B4.one
        · refine hpre [] (.inl rfl) (hr.ev.bind (.now fun _ => rfl)) ?_
          rw [h2] at B2; rw [h3] at B3; rw [h4] at B4
          refine B2.bind ?_
          simp only [Option.getD_none, List.isEmpty_nil, if_true]
          refine B3.bind ?_
          simp only [Option.getD_none, List.isEmpty_nil, if_true]
          exact B4.one
  · simp only [c24, decide_false, Bool.and_false] at R
    exact ⟨[], .inl rfl, R.bind (.now fun _ => rfl), by simp only [show (L.length : Int) > 24 by omega, if_true]; exact .now fun _ => rfl⟩
theorem Blame_same {L : List S4} (hl : L.length ≤ 2097152) : ∃ v : List Int, v.length ≤ 4 ∧ Ev (fun q => spec_Blame.f q L) v ∧ Ev (fun q => impl_Blame.f q L) v := by
  obtain ⟨v, h, e⟩ := Blame_vals hl
  exact ⟨v, h.len, e⟩
end Go.Proofs.Ytlkcpldohlemcaa.Q
