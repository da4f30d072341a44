/- Is a tree right, by both programs. -/
import Derived.Test.YtalkkenkeilmpaaQ0
import Derived.Test.YtalkkenkeilmpaaP4b
namespace Go.Proofs.Ytalkkenkeilmpaa.Q
open Go Go.RowKit Go.Proofs Go.Proofs.Ytalkkenkeilmpaa.Ev Go.Proofs.Ytalkkenkeilmpaa.G
set_option linter.unusedSimpArgs false
set_option linter.unusedVariables false

def z4 : S4 := ⟨0, 0, 0, 0⟩
def look : Tree → List S4 → Bool
  | .mk _ p [], _ => decide (p = z4)
  | .mk b p [x, y], L => !b && okp p && decide (L.length ≠ 24) && !wl L p && !wl L (flp p) && look x (L ++ [p]) && look y (L ++ [flp p])
  | _, _ => false
theorem l8Path_f (k : Nat) {L : List S4} {p : S4} (h : L.length ≤ 2097152) : spec_l8Path.f k L p = some (L ++ [p]) := by
  simp only [spec_l8Path.f, List.nil_append, List.length_nil, List.length_append, List.length_cons]
  rw [if_pos (lt47_ok (by omega)), if_pos (lt47_ok (by omega))]
theorem z4_iff (p : S4) : ((p.a == 0) && ((p.b == 0) && ((p.c == 0) && (p.d == 0)))) = decide (p = z4) := by
  rw [Bool.eq_iff_iff, decide_eq_true_iff]
  cases p; simp [z4]
def LOk (L : List S4) : Prop := (∀ p ∈ L, okp p = true) ∧ L.length ≤ 24
theorem LOk.snoc {L : List S4} (h : LOk L) (hn : L.length ≠ 24) {p : S4} (hp : okp p = true) : LOk (L ++ [p]) := by
  obtain ⟨h1, h2⟩ := h
  refine ⟨fun q hq => ?_, by simp; omega⟩
  simp only [List.mem_append, List.mem_singleton] at hq
  rcases hq with hq | rfl
  · exact h1 q hq
  · exact hp
theorem look_long {b : Bool} {p : S4} {l : List Tree} {L : List S4} (h0 : l.length ≠ 0) (h2 : l.length ≠ 2) : look (.mk b p l) L = false := by
  match l, h0, h2 with
  | [], h0, _ => exact absurd rfl h0
  | [x], _, _ => simp [look]
  | [x, y], _, h2 => exact absurd rfl h2
  | x :: y :: z :: r, _, _ => simp [look]
theorem look_ok {T : Tree} (hT : TW T) : ∀ L, LOk L → Ev (fun k => spec_l8Look.f k T L) (look T L) := by
  induction hT with
  | mk b p l hl h ih =>
    intro L hL
    refine Ev.succ (g := fun k => spec_l8Look.fs k (spec_l8Look.f k) (.mk b p l) L) ?_ (fun k => spec_l8Look.fS k _ L)
    simp only [spec_l8Look.fs, leaf_f, T1_eq, Option.bind_some, eq_iff, ne_iff, Tree.kids, Tree.inn, Tree.p, z4_iff]
    by_cases c0 : l.length = 0
    · obtain rfl : l = [] := List.eq_nil_of_length_eq_zero c0
      simp only [List.length_nil, Int.natCast_zero, if_true, look]
      exact .now fun _ => rfl
    · by_cases c2 : l.length = 2
      · obtain ⟨x, y, rfl⟩ : ∃ x y, l = [x, y] := by
          match l, c2 with
          | [x, y], _ => exact ⟨x, y, rfl⟩
        have r0 : rd [x, y] 0 = x := rfl
        have r1 : rd [x, y] 1 = y := rfl
        have lp : ∀ {q : S4}, ∀ k, spec_l8Path.f k L q = some (L ++ [q]) := fun {q} k => l8Path_f k (by have := hL.2; omega)
        simp only [List.length_cons, List.length_nil, show ((0 + 1 + 1 : Nat) : Int) = 2 from rfl, show ¬ ((2 : Int) = 0) by omega, if_false, ne_eq, not_true_eq_false, if_pos (show (0 : Int) < 2 by omega), if_pos (show (1 : Int) < 2 by omega), if_pos (show (0 : Int) ≤ 1 by omega), Nat.le_refl, Nat.zero_le, Int.le_refl, if_true, r0, r1, lp, Option.bind_some, look]
        cases b with
        | true => simp only [if_true, Bool.not_true, Bool.false_and]; exact .now fun _ => rfl
        | false =>
          simp only [Bool.false_eq_true, if_false, Bool.not_false, Bool.true_and]
          refine (spec_PlaneOk_ev p).bind ?_
          cases hp : okp p with
          | false => simp only [Bool.not_false, if_true, Bool.false_and]; exact .now fun _ => rfl
          | true =>
            have hb := okp_bd4 hp
            have hf := flp_ok hp
            have hbf := okp_bd4 hf
            simp only [Bool.not_true, Bool.false_eq_true, if_false, Bool.true_and, l3Flip_f _ hb, Option.bind_some]
            by_cases c24 : L.length = 24
            · simp only [c24, show ((24 : Nat) : Int) = 24 from rfl, if_true, ne_eq, not_true_eq_false, decide_false, Bool.false_and]; exact .now fun _ => rfl
            · simp only [show ¬ ((L.length : Int) = 24) by omega, if_false, c24, ne_eq, not_false_eq_true, decide_true, Bool.true_and]
              refine (l6With_ev hL.1 hb (by have := hL.2; omega)).bind ?_
              cases wl L p with
              | true => simp only [if_true, Bool.not_true, Bool.false_and]; exact .now fun _ => rfl
              | false =>
                simp only [Bool.false_eq_true, if_false, Bool.not_false, Bool.true_and]
                refine (l6With_ev hL.1 hbf (by have := hL.2; omega)).bind ?_
                cases wl L (flp p) with
                | true => simp only [if_true, Bool.not_true, Bool.false_and]; exact .now fun _ => rfl
                | false =>
                  simp only [Bool.false_eq_true, if_false, Bool.not_false, Bool.true_and]
                  refine (ih x (by simp) _ (hL.snoc c24 hp)).bind ?_
                  cases look x (L ++ [p]) with
                  | false => simp only [Bool.false_eq_true, if_false, Bool.false_and]; exact .now fun _ => rfl
                  | true => simp only [if_true, Bool.true_and]; exact (ih y (by simp) _ (hL.snoc c24 hf)).one
      · rw [look_long c0 c2]
        simp only [show ¬ ((l.length : Int) = 0) by omega, show ¬ ((l.length : Int) = 2) by omega, if_false, ne_eq, not_false_eq_true, if_true]
        exact .now fun _ => rfl
theorem right_ok {T : Tree} (hT : TW T) : ∀ L, LOk L → ∀ c : Int, 0 ≤ c → c ≤ 300 → ∃ c' : Int, Ev (fun k => impl_checker_right.f k c T L) (look T L && decide (c + (nn T : Int) ≤ 300), c') ∧ ((look T L && decide (c + (nn T : Int) ≤ 300)) = true → c' = c + (nn T : Int)) := by
  induction hT with
  | mk b p l hl h ih =>
    intro L hL c hc0 hc
    have go : ∀ (R : Bool × Int), Ev (fun k => impl_checker_right.fs k (impl_checker_right.f k) c (.mk b p l) L) R → Ev (fun k => impl_checker_right.f k c (.mk b p l) L) R := fun R h => Ev.succ h (fun k => impl_checker_right.fS k c _ L)
    have w1 : W (c + 1) = c + 1 := W_id (by omega) (by omega)
    by_cases c0 : l.length = 0
    · obtain rfl : l = [] := List.eq_nil_of_length_eq_zero c0
      refine ⟨c, go _ ?_, fun _ => by simp [nn]⟩
      simp only [impl_checker_right.fs, isLeaf_f, T1_eq, Option.bind_some, eq_iff, ne_iff, Tree.kids, Tree.inn, Tree.p, z4_iff, List.length_nil, Int.natCast_zero, if_true, look]
      refine .now fun _ => ?_
      rw [show decide (c + (nn (.mk b p []) : Int) ≤ 300) = true from by simp [nn]; omega, Bool.and_true]
    · by_cases c2 : l.length = 2
      · obtain ⟨x, y, rfl⟩ : ∃ x y, l = [x, y] := by
          match l, c2 with
          | [x, y], _ => exact ⟨x, y, rfl⟩
        have r0 : rd [x, y] 0 = x := rfl
        have r1 : rd [x, y] 1 = y := rfl
        have en : nn (.mk b p [x, y]) = 1 + (nn x + nn y) := by simp [nn, nnL]
        have lp : ∀ {q : S4}, ∀ k, impl_with.f k L q = some (L ++ [q]) := fun {q} k => with_f k (by have := hL.2; omega)
        have base : ∀ R : Bool × Int, Ev (fun k => if b = true then some (false, c + 1) else if c + 1 > 300 then some (false, c + 1) else if (L.length : Int) ≥ 24 then some (false, c + 1) else (impl_PlaneOk.f k p).bind fun t2 => if (!t2) = true then some (false, c + 1) else (impl_flip.f k p).bind fun t3 => (impl_room.f k L p).bind fun t4 => if (!t4) = true then some (false, c + 1) else (impl_room.f k L t3).bind fun t5 => if (!t5) = true then some (false, c + 1) else
            (impl_checker_right.f k (c + 1) x (L ++ [p])).bind fun t7 => if t7.1 = true then (impl_checker_right.f k t7.2 y (L ++ [t3])).bind fun t9 => some (t9.1, t9.2) else some (false, t7.2)) R → Ev (fun k => impl_checker_right.f k c (.mk b p [x, y]) L) R := fun R h => by
          refine go R (h.congr fun k => ?_)
          simp only [impl_checker_right.fs, isLeaf_f, T1_eq, Option.bind_some, eq_iff, ne_iff, decide_eq_true_eq, Tree.kids, Tree.inn, Tree.p, List.length_cons, List.length_nil, show ((0 + 1 + 1 : Nat) : Int) = 2 from rfl, show ¬ ((2 : Int) = 0) by omega, if_false, ne_eq, not_true_eq_false, if_pos (show (0 : Int) < 2 by omega), if_pos (show (1 : Int) < 2 by omega), if_pos (show (0 : Int) ≤ 1 by omega), Nat.le_refl, Nat.zero_le, Int.le_refl, if_true, r0, r1, lp, Option.bind_some, w1]
        have no : (look (.mk b p [x, y]) L && decide (c + (nn (.mk b p [x, y]) : Int) ≤ 300)) = false → Ev (fun k => impl_checker_right.f k c (.mk b p [x, y]) L) (false, c + 1) → ∃ c' : Int, Ev (fun k => impl_checker_right.f k c (.mk b p [x, y]) L) (look (.mk b p [x, y]) L && decide (c + (nn (.mk b p [x, y]) : Int) ≤ 300), c') ∧ ((look (.mk b p [x, y]) L && decide (c + (nn (.mk b p [x, y]) : Int) ≤ 300)) = true → c' = c + (nn (.mk b p [x, y]) : Int)) := fun e h => by
          rw [e]; exact ⟨_, h, fun h => by cases h⟩
        cases b with
        | true => exact no (by simp [look]) (base _ (by simp only [if_true]; exact .now fun _ => rfl))
        | false =>
          simp only [Bool.false_eq_true, if_false] at base
          by_cases h300 : c + 1 > 300
          · exact no (by rw [en, show decide (c + ((1 + (nn x + nn y) : Nat) : Int) ≤ 300) = false from decide_eq_false (by omega), Bool.and_false]) (base _ (by simp only [if_pos h300]; exact .now fun _ => rfl))
          simp only [if_neg h300] at base
          by_cases c24 : L.length = 24
          · exact no (by simp [look, c24]) (base _ (by simp only [c24, if_pos (show ((24 : Nat) : Int) ≥ 24 by omega)]; exact .now fun _ => rfl))
          have hlt := hL.2
          simp only [if_neg (show ¬ (L.length : Int) ≥ 24 by omega)] at base
          cases hp : okp p with
          | false => exact no (by simp [look, hp]) (base _ ((impl_PlaneOk_ev p).bind (by rw [hp]; exact .now fun _ => rfl)))
          | true =>
            have hb := okp_bd4 hp
            have hf := flp_ok hp
            have hbf := okp_bd4 hf
            have pok := impl_PlaneOk_ev p
            rw [hp] at pok
            have base2 : ∀ R : Bool × Int, Ev (fun k => (impl_room.f k L p).bind fun t4 => if (!t4) = true then some (false, c + 1) else (impl_room.f k L (flp p)).bind fun t5 => if (!t5) = true then some (false, c + 1) else
                (impl_checker_right.f k (c + 1) x (L ++ [p])).bind fun t7 => if t7.1 = true then (impl_checker_right.f k t7.2 y (L ++ [flp p])).bind fun t9 => some (t9.1, t9.2) else some (false, t7.2)) R → Ev (fun k => impl_checker_right.f k c (.mk false p [x, y]) L) R := fun R h =>
              base R (pok.bind (h.congr fun k => by simp only [Bool.not_true, Bool.false_eq_true, if_false, flip_f k hb, Option.bind_some]))
            have ro := room_ev hL.1 hb (by omega)
            have rof := room_ev hL.1 hbf (by omega)
            cases hw : wl L p with
            | true => exact no (by simp [look, hw]) (base2 _ (ro.bind (by rw [hw]; exact .now fun _ => rfl)))
            | false =>
              cases hwf : wl L (flp p) with
              | true => exact no (by simp [look, hwf]) (base2 _ (ro.bind (by rw [hw]; simp only [Bool.not_false, Bool.not_true, Bool.false_eq_true, if_false]; exact rof.bind (by rw [hwf]; exact .now fun _ => rfl))))
              | false =>
                have base3 : ∀ R : Bool × Int, Ev (fun k => (impl_checker_right.f k (c + 1) x (L ++ [p])).bind fun t7 => if t7.1 = true then (impl_checker_right.f k t7.2 y (L ++ [flp p])).bind fun t9 => some (t9.1, t9.2) else some (false, t7.2)) R → Ev (fun k => impl_checker_right.f k c (.mk false p [x, y]) L) R := fun R h =>
                  base2 R (ro.bind (by rw [hw]; simp only [Bool.not_false, Bool.not_true, Bool.false_eq_true, if_false]; exact rof.bind (by rw [hwf]; simp only [Bool.not_false, Bool.not_true, Bool.false_eq_true, if_false]; exact h)))
                have lk : look (.mk false p [x, y]) L = (look x (L ++ [p]) && look y (L ++ [flp p])) := by simp [look, hp, hw, hwf, c24]
                obtain ⟨c1, e1, v1⟩ := ih x (by simp) _ (hL.snoc c24 hp) (c + 1) (by omega) (by omega)
                rw [lk, en]
                cases b1 : (look x (L ++ [p]) && decide (c + 1 + (nn x : Int) ≤ 300)) with
                | false =>
                  have e : (look x (L ++ [p]) && look y (L ++ [flp p]) && decide (c + ((1 + (nn x + nn y) : Nat) : Int) ≤ 300)) = false := by
                    rw [Bool.eq_false_iff]; intro hh
                    simp only [Bool.and_eq_true, decide_eq_true_eq] at hh
                    rw [Bool.eq_false_iff] at b1
                    exact b1 (by simp only [Bool.and_eq_true, decide_eq_true_eq]; exact ⟨hh.1.1, by omega⟩)
                  rw [e]
                  exact ⟨c1, base3 _ (e1.bind (by rw [b1]; exact .now fun _ => rfl)), fun h => by cases h⟩
                | true =>
                  have ec := v1 b1
                  simp only [Bool.and_eq_true, decide_eq_true_eq] at b1
                  subst ec
                  obtain ⟨c3, e3, v3⟩ := ih y (by simp) _ (hL.snoc c24 hf) (c + 1 + (nn x : Int)) (by omega) (by omega)
                  have e : (look x (L ++ [p]) && look y (L ++ [flp p]) && decide (c + ((1 + (nn x + nn y) : Nat) : Int) ≤ 300)) = (look y (L ++ [flp p]) && decide (c + 1 + (nn x : Int) + (nn y : Int) ≤ 300)) := by
                    rw [b1.1, Bool.true_and, show c + ((1 + (nn x + nn y) : Nat) : Int) = c + 1 + (nn x : Int) + (nn y : Int) by omega]
                  rw [e]
                  refine ⟨c3, base3 _ (e1.bind ?_), fun h => by rw [v3 h]; omega⟩
                  simp only [b1.1, b1.2, decide_true, Bool.and_self, if_true]
                  exact e3.one (g := fun t9 => (t9.1, t9.2))
      · have e : look (.mk b p l) L = false := look_long c0 c2
        rw [e, Bool.false_and]
        refine ⟨c + 1, go _ ?_, fun h => by cases h⟩
        simp only [impl_checker_right.fs, isLeaf_f, T1_eq, Option.bind_some, eq_iff, ne_iff, Tree.kids, Tree.inn, Tree.p, show ¬ ((l.length : Int) = 0) by omega, show ¬ ((l.length : Int) = 2) by omega, if_false, ne_eq, not_false_eq_true, if_true, w1]
        cases b <;> exact .now fun _ => rfl
/-- a solid is right -/
def sok (T : Tree) : Bool := look T [] && decide (nn T ≤ 300)
theorem LOk.nil : LOk [] := ⟨fun p hp => (by cases hp), by simp⟩
theorem spec_SolidOk_ev {T : Tree} (hT : TW T) : Ev (fun k => spec_SolidOk.f k T) (sok T) := by
  simp only [spec_SolidOk.f, T1_eq, decide_eq_true_eq]
  refine (count_ok hT 301 (by omega) (by omega)).bind ?_
  unfold sok
  by_cases c : nn T ≤ 300
  · simp only [if_pos (show min (nn T : Int) 301 ≤ 300 by omega), c, decide_true, Bool.and_true]
    exact (look_ok hT [] .nil).one
  · simp only [if_neg (show ¬ min (nn T : Int) 301 ≤ 300 by omega), c, decide_false, Bool.and_false]
    exact .now fun _ => rfl
theorem impl_SolidOk_ev {T : Tree} (hT : TW T) : Ev (fun k => impl_SolidOk.f k T) (sok T) := by
  simp only [impl_SolidOk.f, T1_eq]
  obtain ⟨c, e, _⟩ := right_ok hT [] .nil 0 (by omega) (by omega)
  have := e.one (g := fun t1 => t1.1)
  rw [show (look T [] && decide (0 + (nn T : Int) ≤ 300)) = sok T from by unfold sok; congr 1; rw [decide_eq_decide]; omega] at this
  exact this
end Go.Proofs.Ytalkkenkeilmpaa.Q
