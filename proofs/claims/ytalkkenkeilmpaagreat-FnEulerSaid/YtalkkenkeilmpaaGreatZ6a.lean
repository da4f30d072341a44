/- Picked out of other texts. -/
import Derived.Test.YtalkkenkeilmpaaGreatZ5
namespace Go.Proofs.YtalkkenkeilmpaaGreat.Q
open Go Go.RowKit Go.Proofs Go.Proofs.YtalkkenkeilmpaaGreat.Ev Go.Proofs.YtalkkenkeilmpaaGreat.G
set_option linter.unusedSimpArgs false
set_option linter.unusedVariables false

theorem spot_step {x : S3} {s : S4} {i : Int} {r : impl_SpotOk.B4} (h0 : 0 ≤ i) (h3 : i < 3) (h : (-1000000000 ≤ sel [x.x, x.y, x.z] i ∧ sel [x.x, x.y, x.z] i ≤ 1000000000) → Lv (fun k n => impl_SpotOk.l4 k n x (W (i + 1)) s) r) (h2 : ¬ (-1000000000 ≤ sel [x.x, x.y, x.z] i ∧ sel [x.x, x.y, x.z] i ≤ 1000000000) → r = .inl ((false, ()), ())) : Lv (fun k n => impl_SpotOk.l4 k n x i s) r := by
  refine Lv.step (g := fun k n => impl_SpotOk.s4 k (impl_SpotOk.l4 k n) x i s) ?_ (fun _ _ => rfl)
  simp only [impl_SpotOk.s4, decide_eq_true_eq, if_pos h3, if_pos h0, inRange_f, Option.bind_some]
  by_cases c : -1000000000 ≤ sel [x.x, x.y, x.z] i ∧ sel [x.x, x.y, x.z] i ≤ 1000000000
  · simp only [c, and_self, decide_true, Bool.not_true, Bool.false_eq_true, if_false]; exact h c
  · rw [h2 c]; simp only [c, decide_false, Bool.not_false, if_true]; exact .now fun _ _ => rfl
theorem impl_SpotOk_ev (s : S4) : Ev (fun k => impl_SpotOk.f k s) (spk s) := by
  simp only [impl_SpotOk.f, inRange_f, Option.bind_some, spk]
  by_cases hd : 1 ≤ s.d ∧ s.d ≤ 1000000000
  · simp only [hd, and_self, decide_true, Bool.not_true, Bool.false_eq_true, if_false, true_and]
    have L : Lv (fun k n => impl_SpotOk.l4 k n ⟨s.a, s.b, s.c⟩ 0 s) (if (-1000000000 ≤ s.a ∧ s.a ≤ 1000000000) ∧ (-1000000000 ≤ s.b ∧ s.b ≤ 1000000000) ∧ (-1000000000 ≤ s.c ∧ s.c ≤ 1000000000) then .inr (((), ()), (s, ())) else .inl ((false, ()), ())) := by
      have q0 : sel [s.a, s.b, s.c] 0 = s.a := rfl
      have q1 : sel [s.a, s.b, s.c] 1 = s.b := rfl
      have q2 : sel [s.a, s.b, s.c] 2 = s.c := rfl
      refine spot_step (by omega) (by omega) (fun ha => ?_) (fun ha => ?_)
      · rw [show W (0 + 1) = 1 from W_1]
        refine spot_step (by omega) (by omega) (fun hb => ?_) (fun hb => ?_)
        · rw [show W (1 + 1) = 2 from W_2]
          refine spot_step (by omega) (by omega) (fun hc => ?_) (fun hc => ?_)
          · rw [show W (2 + 1) = 3 from W_3]
            simp only [q0, q1, q2] at ha hb hc
            rw [if_pos ⟨ha, hb, hc⟩]
            refine Lv.step (g := fun k n => impl_SpotOk.s4 k (impl_SpotOk.l4 k n) ⟨s.a, s.b, s.c⟩ 3 s) ?_ (fun _ _ => rfl)
            exact .now fun k n => by simp [impl_SpotOk.s4]
          · simp only [q2] at hc; rw [if_neg (fun h => hc h.2.2)]
        · simp only [q1] at hb; rw [if_neg (fun h => hb h.2.1)]
      · simp only [q0] at ha; rw [if_neg (fun h => ha h.1)]
    refine L.ev.bind ?_
    by_cases c : (-1000000000 ≤ s.a ∧ s.a ≤ 1000000000) ∧ (-1000000000 ≤ s.b ∧ s.b ≤ 1000000000) ∧ (-1000000000 ≤ s.c ∧ s.c ≤ 1000000000)
    · simp only [if_pos c, c, and_self, decide_true, Bool.true_and]
      exact (divisor4_ev (a := s.a) (b := s.b) (c := s.c) (d := s.d) (by omega) (by omega) (by omega) (by omega)).one
    · simp only [if_neg c, c, decide_false, Bool.false_and]; exact .now fun _ => rfl
  · simp only [hd, decide_false, Bool.not_false, if_true, false_and, Bool.false_and]; exact .now fun _ => rfl
theorem big_ev (a : List Int) : Ev (fun k => laws_big.f k a) (decide ((a.length : Int) > 1048576)) := .now fun _ => rfl
end Go.Proofs.YtalkkenkeilmpaaGreat.Q
