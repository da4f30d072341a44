/- The library's functions on rows of planes and spots: their promises, made by hand. -/
import Derived.Test.YtalkkenkeilmpaaGreatSg
import Derived.Test.YtalkkenkeilmpaaGreatG0
import Derived.Shelf.SlGeneric
import Derived.Laws.StructEq
namespace Go.Proofs.YtalkkenkeilmpaaGreat.G
open Go Go.RowKit Go.Proofs Go.Proofs.YtalkkenkeilmpaaGreat.Ev Go.Shelf
set_option linter.unusedVariables false
set_option linter.unusedSimpArgs false
set_option maxRecDepth 100000

def cI (x y : Int) : Int := if x < y then -1 else if x > y then 1 else 0
theorem cI_lt {x y : Int} : cI x y < 0 ↔ x < y := by unfold cI; split <;> (try split) <;> omega
theorem cI_0 {x y : Int} : cI x y = 0 ↔ x = y := by unfold cI; split <;> (try split) <;> omega
theorem cmp_f (k : Nat) (x y : Int) : cmp_Compare_int.f k x y = some (cI x y) := by
  unfold cmp_Compare_int.f cmp_isNaN_int.f cI
  simp only [Option.bind_some, bne_self_eq_false, Bool.false_eq_true, if_false, decide_eq_true_eq]
  split
  · rfl
  · split <;> rfl
def cor : List Int → Int
  | [] => 0
  | x :: r => if x ≠ 0 then x else cor r
theorem or_l3 (k : Nat) (l : List Int) (hl : l.length ≤ 100) : ∀ (d i n : Nat), l.length - i = d → i ≤ l.length → d < n → (cmp_Or_int.l3 k n 0 l (l.length : Int) (i : Int)).bind (fun | .inl r1 => (some r1.1.1) | .inr x2 => (some x2.1.1)) = some (cor (l.drop i)) := by
  intro d
  induction d with
  | zero =>
    intro i n hd hi hn
    obtain ⟨m, rfl⟩ : ∃ m, n = m + 1 := ⟨n - 1, by omega⟩
    rw [List.drop_eq_nil_of_le (by omega)]
    simp only [cmp_Or_int.l3, cmp_Or_int.s3, decide_eq_true_eq, if_neg (show ¬ (i : Int) < (l.length : Int) by omega)]
    rfl
  | succ d ih =>
    intro i n hd hi hn
    obtain ⟨m, rfl⟩ : ∃ m, n = m + 1 := ⟨n - 1, by omega⟩
    have hi' : i < l.length := by omega
    have w : W ((i : Int) + 1) = ((i + 1 : Nat) : Int) := by
      unfold W; rw [IntKind.wrap_i64]; omega
    have e : rd l (i : Int) = l[i] := by simp [rd, List.getD_eq_getElem?_getD, hi']
    rw [← List.getElem_cons_drop hi']
    simp only [cmp_Or_int.l3, cmp_Or_int.s3, decide_eq_true_eq, if_pos (show (i : Int) < (l.length : Int) by omega), if_pos (Int.natCast_nonneg _), e, w, cor]
    by_cases c : l[i] = 0
    · rw [if_neg (by simp [c]), if_neg (by simp [c])]
      exact ih (i + 1) m (by omega) (by omega) (by omega)
    · rw [if_pos (by simpa using c), if_pos c]; rfl
theorem or_f (l : List Int) (hl : l.length ≤ 9) : cmp_Or_int.f 10 l = some (cor l) := by
  have := or_l3 10 l (by omega) l.length 0 10 (by omega) (by omega) (by omega)
  rw [List.drop_zero] at this
  exact this
theorem cmpOk_of {g : Nat} {ok : S4 → Bool} {cf : S4 → S4 → Int} {F : FE} (hF : Fun Tryz.prog g F.G) (hv : ∀ x y, F.G [aS4.enc x, aS4.enc y] = some (.one (.v (.int .i64 (cf x y))))) (irr : ∀ x, ok x = true → ¬ cf x x < 0) (tr : ∀ x y z, ok x = true → ok y = true → ok z = true → cf x y < 0 → cf y z < 0 → cf x z < 0)
    (ntr : ∀ x y z, ok x = true → ok y = true → ok z = true → ¬ cf x y < 0 → ¬ cf y z < 0 → ¬ cf x z < 0) (tot : ∀ x y, ok x = true → ok y = true → ¬ cf x y < 0 → ¬ cf y x < 0 → x = y) : CmpOk Tryz.prog g ok cf where
  can := hF.can
  runs := fun x y _ _ w => by
    refine (hF.runs _ _ (hv x y) #[.agg (enc4 x).toArray, .agg (enc4 y).toArray] w (fun _ => False) (fun _ h => h.elim) rfl (fun i v y' h1 h2 => ?_)).mono fun e w' ⟨v, he, hb, hr⟩ => ?_
    · match i, h1, h2 with
      | 0, h1, h2 => simp at h1 h2; subst h1 h2; exact .v _
      | 1, h1, h2 => simp at h1 h2; subst h1 h2; exact .v _
      | i + 2, h1, h2 => simp at h1
    · have : v = .int .i64 (cf x y) := rep_v_inv hr
      subst this
      exact ⟨he, hb⟩
  irr := irr
  tr := tr
  ntr := ntr
  tot := tot
def cfSpot (x y : S4) : Int := cor [cI (W (x.a * y.d)) (W (y.a * x.d)), cI (W (x.b * y.d)) (W (y.b * x.d)), cI (W (x.c * y.d)) (W (y.c * x.d))]
theorem cmpSpot_f (x y : S4) : impl_cmpSpot.f 10 x y = some (cfSpot x y) := by
  simp only [impl_cmpSpot.f, cmp_f, Option.bind_some, or_f _ (show ([cI (W (x.a * y.d)) (W (y.a * x.d)), cI (W (x.b * y.d)) (W (y.b * x.d)), cI (W (x.c * y.d)) (W (y.c * x.d))] : List Int).length ≤ 9 by simp)]
  rfl
/-- a spot that is right -/
def okSpot (s : S4) : Bool := decide ((1 ≤ s.d ∧ s.d ≤ 1000000000) ∧ (-1000000000 ≤ s.a ∧ s.a ≤ 1000000000) ∧ (-1000000000 ≤ s.b ∧ s.b ≤ 1000000000) ∧ (-1000000000 ≤ s.c ∧ s.c ≤ 1000000000)) && (Nat.gcd (Nat.gcd s.a.natAbs s.b.natAbs) (Nat.gcd s.c.natAbs s.d.natAbs) == 1)
theorem okSpot_iff {s : S4} : okSpot s = true ↔ ((1 ≤ s.d ∧ s.d ≤ 1000000000) ∧ (-1000000000 ≤ s.a ∧ s.a ≤ 1000000000) ∧ (-1000000000 ≤ s.b ∧ s.b ≤ 1000000000) ∧ (-1000000000 ≤ s.c ∧ s.c ≤ 1000000000)) ∧ Nat.gcd (Nat.gcd s.a.natAbs s.b.natAbs) (Nat.gcd s.c.natAbs s.d.natAbs) = 1 := by
  unfold okSpot; rw [Bool.and_eq_true, decide_eq_true_eq, beq_iff_eq]
theorem mul_wrap {x y : Int} (hx : -1000000000 ≤ x ∧ x ≤ 1000000000) (hy : 1 ≤ y ∧ y ≤ 1000000000) : W (x * y) = x * y := by
  have h1 : x * y ≤ 1000000000 * y := Int.mul_le_mul_of_nonneg_right hx.2 (by omega)
  have h2 : -1000000000 * y ≤ x * y := Int.mul_le_mul_of_nonneg_right hx.1 (by omega)
  unfold W; rw [IntKind.wrap_i64]; omega
/-- fractions, one behind the other -/
theorem fr_le {x y z p q r : Int} (hp : 0 < p) (hq : 0 < q) (hr : 0 < r) (h1 : x * q ≤ y * p) (h2 : y * r ≤ z * q) : x * r ≤ z * p := by
  have a : x * q * r ≤ y * p * r := Int.mul_le_mul_of_nonneg_right h1 (by omega)
  have b : y * r * p ≤ z * q * p := Int.mul_le_mul_of_nonneg_right h2 (by omega)
  have c : (x * r) * q ≤ (z * p) * q := by
    have e1 : (x * r) * q = x * q * r := by grind
    have e2 : (z * p) * q = z * q * p := by grind
    have e3 : y * p * r = y * r * p := by grind
    omega
  exact Int.le_of_mul_le_mul_right c hq
theorem fr_eq {x y z p q r : Int} (hp : 0 < p) (hq : 0 < q) (hr : 0 < r) (h1 : x * q = y * p) (h2 : y * r = z * q) : x * r = z * p :=
  Int.le_antisymm (fr_le (x := x) (y := y) (z := z) hp hq hr (by omega) (by omega)) (fr_le (x := z) (y := y) (z := x) (p := r) (q := q) (r := p) hr hq hp (by omega) (by omega))
theorem fr_lt {x y z p q r : Int} (hp : 0 < p) (hq : 0 < q) (hr : 0 < r) (h1 : x * q ≤ y * p) (h2 : y * r ≤ z * q) (h : x * q < y * p ∨ y * r < z * q) : x * r < z * p := by
  refine Int.not_le.1 fun hc => ?_
  -- then z/r <= x/p: and so y/q <= x/p, z/r <= y/q
  have a := fr_le (x := y) (y := z) (z := x) hq hr hp h2 hc
  have b := fr_le (x := z) (y := x) (z := y) hr hp hq hc h1
  omega
def ltF (x y : S4) : Prop := x.a * y.d < y.a * x.d ∨ (x.a * y.d = y.a * x.d ∧ (x.b * y.d < y.b * x.d ∨ (x.b * y.d = y.b * x.d ∧ x.c * y.d < y.c * x.d)))
theorem cfSpot_lt {x y : S4} (hx : okSpot x = true) (hy : okSpot y = true) : cfSpot x y < 0 ↔ ltF x y := by
  obtain ⟨⟨x1, x2, x3, x4⟩, _⟩ := okSpot_iff.1 hx
  obtain ⟨⟨y1, y2, y3, y4⟩, _⟩ := okSpot_iff.1 hy
  unfold cfSpot ltF
  rw [mul_wrap x2 y1, mul_wrap x3 y1, mul_wrap x4 y1, mul_wrap y2 x1, mul_wrap y3 x1, mul_wrap y4 x1]
  generalize x.a * y.d = A; generalize y.a * x.d = A'; generalize x.b * y.d = B; generalize y.b * x.d = B'; generalize x.c * y.d = C; generalize y.c * x.d = C'
  have h1 := @cI_lt A A'; have h2 := @cI_0 A A'; have h3 := @cI_lt B B'; have h4 := @cI_0 B B'; have h5 := @cI_lt C C'; have h6 := @cI_0 C C'
  simp only [cor]
  split
  · omega
  · split
    · omega
    · split <;> omega
theorem ltF_tr {x y z : S4} (hx : 0 < x.d) (hy : 0 < y.d) (hz : 0 < z.d) (h1 : ltF x y) (h2 : ltF y z) : ltF x z := by
  unfold ltF at *
  have La := fun h1 h2 h => fr_lt (x := x.a) (y := y.a) (z := z.a) hx hy hz h1 h2 h
  have Ea := fun h1 h2 => fr_eq (x := x.a) (y := y.a) (z := z.a) hx hy hz h1 h2
  have Lb := fun h1 h2 h => fr_lt (x := x.b) (y := y.b) (z := z.b) hx hy hz h1 h2 h
  have Eb := fun h1 h2 => fr_eq (x := x.b) (y := y.b) (z := z.b) hx hy hz h1 h2
  have Lc := fun h1 h2 h => fr_lt (x := x.c) (y := y.c) (z := z.c) hx hy hz h1 h2 h
  rcases h1 with h1 | ⟨e1, h1 | ⟨f1, h1⟩⟩ <;> rcases h2 with h2 | ⟨e2, h2 | ⟨f2, h2⟩⟩
  · exact .inl (La (by omega) (by omega) (by omega))
  · exact .inl (La (by omega) (by omega) (by omega))
  · exact .inl (La (by omega) (by omega) (by omega))
  · exact .inl (La (by omega) (by omega) (by omega))
  · exact .inr ⟨Ea e1 e2, .inl (Lb (by omega) (by omega) (by omega))⟩
  · exact .inr ⟨Ea e1 e2, .inl (Lb (by omega) (by omega) (by omega))⟩
  · exact .inl (La (by omega) (by omega) (by omega))
  · exact .inr ⟨Ea e1 e2, .inl (Lb (by omega) (by omega) (by omega))⟩
  · exact .inr ⟨Ea e1 e2, .inr ⟨Eb f1 f2, Lc (by omega) (by omega) (by omega)⟩⟩
def eqF (x y : S4) : Prop := x.a * y.d = y.a * x.d ∧ x.b * y.d = y.b * x.d ∧ x.c * y.d = y.c * x.d
theorem ltF_tri (x y : S4) : ltF x y ∨ eqF x y ∨ ltF y x := by unfold ltF eqF; omega
theorem ltF_irr (x : S4) : ¬ ltF x x := by unfold ltF; omega
theorem ltF_eq {x y z : S4} (hx : 0 < x.d) (hy : 0 < y.d) (hz : 0 < z.d) (h1 : ltF x y) (h2 : eqF y z) : ltF x z := by
  unfold ltF eqF at *
  have La := fun h1 h2 h => fr_lt (x := x.a) (y := y.a) (z := z.a) hx hy hz h1 h2 h
  have Ea := fun h1 h2 => fr_eq (x := x.a) (y := y.a) (z := z.a) hx hy hz h1 h2
  have Lb := fun h1 h2 h => fr_lt (x := x.b) (y := y.b) (z := z.b) hx hy hz h1 h2 h
  have Eb := fun h1 h2 => fr_eq (x := x.b) (y := y.b) (z := z.b) hx hy hz h1 h2
  have Lc := fun h1 h2 h => fr_lt (x := x.c) (y := y.c) (z := z.c) hx hy hz h1 h2 h
  obtain ⟨e2, f2, g2⟩ := h2
  rcases h1 with h1 | ⟨e1, h1 | ⟨f1, h1⟩⟩
  · exact .inl (La (by omega) (by omega) (by omega))
  · exact .inr ⟨Ea e1 e2, .inl (Lb (by omega) (by omega) (by omega))⟩
  · exact .inr ⟨Ea e1 e2, .inr ⟨Eb f1 f2, Lc (by omega) (by omega) (by omega)⟩⟩
theorem eqF_symm {x y : S4} (h : eqF x y) : eqF y x := ⟨h.1.symm, h.2.1.symm, h.2.2.symm⟩
theorem eqF_lt {x y z : S4} (hx : 0 < x.d) (hy : 0 < y.d) (hz : 0 < z.d) (h1 : eqF x y) (h2 : ltF y z) : ltF x z := by
  unfold ltF eqF at *
  have La := fun h1 h2 h => fr_lt (x := x.a) (y := y.a) (z := z.a) hx hy hz h1 h2 h
  have Ea := fun h1 h2 => fr_eq (x := x.a) (y := y.a) (z := z.a) hx hy hz h1 h2
  have Lb := fun h1 h2 h => fr_lt (x := x.b) (y := y.b) (z := z.b) hx hy hz h1 h2 h
  have Eb := fun h1 h2 => fr_eq (x := x.b) (y := y.b) (z := z.b) hx hy hz h1 h2
  have Lc := fun h1 h2 h => fr_lt (x := x.c) (y := y.c) (z := z.c) hx hy hz h1 h2 h
  obtain ⟨e1, f1, g1⟩ := h1
  rcases h2 with h2 | ⟨e2, h2 | ⟨f2, h2⟩⟩
  · exact .inl (La (by omega) (by omega) (by omega))
  · exact .inr ⟨Ea e1 e2, .inl (Lb (by omega) (by omega) (by omega))⟩
  · exact .inr ⟨Ea e1 e2, .inr ⟨Eb f1 f2, Lc (by omega) (by omega) (by omega)⟩⟩
theorem spot_dvd {x y : S4} (hx : okSpot x = true) (hy : okSpot y = true) (h : eqF x y) : x.d.natAbs ∣ y.d.natAbs := by
  obtain ⟨_, gx⟩ := okSpot_iff.1 hx
  obtain ⟨h1, h2, h3⟩ := h
  have n : ∀ {p q r s : Int}, p * q = r * s → p.natAbs * q.natAbs = r.natAbs * s.natAbs := fun {p q r s} h => by rw [← Int.natAbs_mul, ← Int.natAbs_mul, h]
  have n1 := n h1; have n2 := n h2; have n3 := n h3
  have e : y.d.natAbs = Nat.gcd (Nat.gcd (x.a.natAbs * y.d.natAbs) (x.b.natAbs * y.d.natAbs)) (Nat.gcd (x.c.natAbs * y.d.natAbs) (x.d.natAbs * y.d.natAbs)) := by
    rw [Nat.gcd_mul_right, Nat.gcd_mul_right, Nat.gcd_mul_right, gx, Nat.one_mul]
  rw [e]
  refine Nat.dvd_gcd (Nat.dvd_gcd ?_ ?_) (Nat.dvd_gcd ?_ ?_)
  · rw [n1]; exact Nat.dvd_mul_left ..
  · rw [n2]; exact Nat.dvd_mul_left ..
  · rw [n3]; exact Nat.dvd_mul_left ..
  · exact Nat.dvd_mul_right ..
theorem spot_eq {x y : S4} (hx : okSpot x = true) (hy : okSpot y = true) (h : eqF x y) : x = y := by
  have d1 := spot_dvd hx hy h
  have d2 := spot_dvd hy hx (eqF_symm h)
  obtain ⟨⟨x1, _⟩, _⟩ := okSpot_iff.1 hx
  obtain ⟨⟨y1, _⟩, _⟩ := okSpot_iff.1 hy
  have ed : x.d = y.d := by
    have := Nat.dvd_antisymm d1 d2
    omega
  obtain ⟨h1, h2, h3⟩ := h
  rw [ed] at h1 h2 h3
  have a := Int.eq_of_mul_eq_mul_right (by omega) h1
  have b := Int.eq_of_mul_eq_mul_right (by omega) h2
  have c := Int.eq_of_mul_eq_mul_right (by omega) h3
  cases x; cases y; simp_all
theorem cmpSpot_ok : CmpOk Tryz.prog 62 okSpot cfSpot := by
  have pos : ∀ {x : S4}, okSpot x = true → 0 < x.d := fun h => by have := (okSpot_iff.1 h).1.1.1; omega
  refine cmpOk_of (impl_cmpSpot.ok 10) (fun x y => ?_) (fun x hx h => ?_) (fun x y z hx hy hz h1 h2 => ?_) (fun x y z hx hy hz h1 h2 h3 => ?_) (fun x y hx hy h1 h2 => ?_)
  · have h1 : (impl_cmpSpot.e 10).args.dec [aS4.enc x, aS4.enc y] = some (x, y, ()) := rfl
    have h2 : (impl_cmpSpot.e 10).f (x, y, ()) = some (cfSpot x y) := cmpSpot_f x y
    unfold FE.G
    rw [h1]
    simp only [h2]
    rfl
  · rw [cfSpot_lt hx hx] at h; exact ltF_irr x h
  · rw [cfSpot_lt hx hy] at h1; rw [cfSpot_lt hy hz] at h2; rw [cfSpot_lt hx hz]; exact ltF_tr (pos hx) (pos hy) (pos hz) h1 h2
  · rw [cfSpot_lt hx hy] at h1; rw [cfSpot_lt hy hz] at h2; rw [cfSpot_lt hx hz] at h3
    rcases ltF_tri y x with h4 | h4 | h4
    · exact h2 (ltF_tr (pos hy) (pos hx) (pos hz) h4 h3)
    · exact h2 (eqF_lt (pos hy) (pos hx) (pos hz) h4 h3)
    · exact h1 h4
  · rw [cfSpot_lt hx hy] at h1; rw [cfSpot_lt hy hx] at h2
    rcases ltF_tri x y with h4 | h4 | h4
    · exact absurd h4 h1
    · exact spot_eq hx hy h4
    · exact absurd h4 h2
def sl61_ren : Go.Shelf.Ren := ⟨fun | 6 => 61 | 14 => 87 | 15 => 88 | 20 => 100 | 21 => 101 | 22 => 102 | 23 => 103 | 24 => 104 | 25 => 105 | 26 => 106 | 27 => 107 | 28 => 108 | 29 => 109 | 46 => 112 | 47 => 113 | 48 => 114 | 49 => 115 | 50 => 116 | 57 => 117 | n => n, fun | 22 => 37 | 24 => 31 | 25 => 81 | 39 => 100 | 45 => 106 | 46 => 107 | 50 => 52 | 53 => 113 | 55 => 66 | 66 => 115 | 70 => 119 | 76 => 121 | 77 => 122 | n => n, fun n => n⟩
theorem sl61 : SlLaysF0.n6 Tryz.prog sl61_ren where
  mixed := by kernel_rfl
  f6 := ⟨Tryz.f61.name, by decide, Tryz.func61.trans (congrArg some (by kernel_rfl))⟩
  f14 := ⟨Tryz.f87.name, by decide, Tryz.func87.trans (congrArg some (by kernel_rfl))⟩
  f15 := Tryz.func88.trans (congrArg some (by kernel_rfl))
  f20 := ⟨Tryz.f100.name, by decide, Tryz.func100.trans (congrArg some (by kernel_rfl))⟩
  f21 := ⟨Tryz.f101.name, by decide, Tryz.func101.trans (congrArg some (by kernel_rfl))⟩
  f22 := ⟨Tryz.f102.name, by decide, Tryz.func102.trans (congrArg some (by kernel_rfl))⟩
  f23 := ⟨Tryz.f103.name, by decide, Tryz.func103.trans (congrArg some (by kernel_rfl))⟩
  f24 := ⟨Tryz.f104.name, by decide, Tryz.func104.trans (congrArg some (by kernel_rfl))⟩
  f25 := ⟨Tryz.f105.name, by decide, Tryz.func105.trans (congrArg some (by kernel_rfl))⟩
  f26 := ⟨Tryz.f106.name, by decide, Tryz.func106.trans (congrArg some (by kernel_rfl))⟩
  f27 := ⟨Tryz.f107.name, by decide, Tryz.func107.trans (congrArg some (by kernel_rfl))⟩
  f28 := Tryz.func108.trans (congrArg some (by kernel_rfl))
  f29 := Tryz.func109.trans (congrArg some (by kernel_rfl))
  f46 := ⟨Tryz.f112.name, by decide, Tryz.func112.trans (congrArg some (by kernel_rfl))⟩
  f47 := Tryz.func113.trans (congrArg some (by kernel_rfl))
  f48 := Tryz.func114.trans (congrArg some (by kernel_rfl))
  f49 := ⟨Tryz.f115.name, by decide, Tryz.func115.trans (congrArg some (by kernel_rfl))⟩
  f50 := ⟨Tryz.f116.name, by decide, Tryz.func116.trans (congrArg some (by kernel_rfl))⟩
  f57 := ⟨Tryz.f117.name, by decide, Tryz.func117.trans (congrArg some (by kernel_rfl))⟩
  t0 := Tryz.underlying0
  a0 := Tryz.isAgg0
  z0 := Tryz.sizeOf0
  v0 := Tryz.zeroValue0
  t3 := Tryz.underlying3
  a3 := Tryz.isAgg3
  z3 := Tryz.sizeOf3
  v3 := Tryz.zeroValue3
  t4 := Tryz.underlying4
  a4 := Tryz.isAgg4
  z4 := Tryz.sizeOf4
  v4 := Tryz.zeroValue4
  t5 := Tryz.underlying5
  a5 := Tryz.isAgg5
  z5 := Tryz.sizeOf5
  v5 := Tryz.zeroValue5
  t9 := Tryz.underlying9
  a9 := Tryz.isAgg9
  z9 := Tryz.sizeOf9
  v9 := Tryz.zeroValue9
  t22 := Tryz.underlying37
  a22 := Tryz.isAgg37
  z22 := Tryz.sizeOf37
  v22 := Tryz.zeroValue37
  t25 := Tryz.underlying81
  a25 := Tryz.isAgg81
  z25 := Tryz.sizeOf81
  v25 := Tryz.zeroValue81
  t39 := Tryz.underlying100
  a39 := Tryz.isAgg100
  z39 := Tryz.sizeOf100
  v39 := Tryz.zeroValue100
  t45 := Tryz.underlying106
  a45 := Tryz.isAgg106
  z45 := Tryz.sizeOf106
  v45 := Tryz.zeroValue106
  t46 := Tryz.underlying107
  a46 := Tryz.isAgg107
  z46 := Tryz.sizeOf107
  v46 := Tryz.zeroValue107
  t50 := Tryz.underlying52
  a50 := Tryz.isAgg52
  z50 := Tryz.sizeOf52
  v50 := Tryz.zeroValue52
  t53 := Tryz.underlying113
  a53 := Tryz.isAgg113
  z53 := Tryz.sizeOf113
  v53 := Tryz.zeroValue113
  t55 := Tryz.underlying66
  a55 := Tryz.isAgg66
  z55 := Tryz.sizeOf66
  v55 := Tryz.zeroValue66
  t66 := Tryz.underlying115
  a66 := Tryz.isAgg115
  z66 := Tryz.sizeOf115
  v66 := Tryz.zeroValue115
  t70 := Tryz.underlying119
  a70 := Tryz.isAgg119
  z70 := Tryz.sizeOf119
  v70 := Tryz.zeroValue119
  t76 := Tryz.underlying121
  a76 := Tryz.isAgg121
  z76 := Tryz.sizeOf121
  v76 := Tryz.zeroValue121
  t77 := Tryz.underlying122
  a77 := Tryz.isAgg122
  z77 := Tryz.sizeOf122
  v77 := Tryz.zeroValue122
noncomputable def slices_SortFunc61.f (k : Nat) (l : List S4) : Option (List S4) := sortV okSpot cfSpot l
noncomputable def slices_SortFunc61.e (k : Nat) : GV := sortG 31 62 (slices_SortFunc61.f k)
theorem slices_SortFunc61.ok (k : Nat) : FunS Tryz.prog 61 (slices_SortFunc61.e k).sk (slices_SortFunc61.e k).H :=
  sort_ok sl61 rfl Tryz.isAgg31 Tryz.sizeOf31 (by kernel_rfl) cmpSpot_ok
def sl64_ren : Go.Shelf.Ren := ⟨fun | 43 => 64 | n => n, fun | 22 => 37 | 23 => 31 | n => n, fun n => n⟩
theorem sl64 : Cm.LC43.n43 Tryz.prog sl64_ren where
  mixed := by kernel_rfl
  f43 := ⟨Tryz.f64.name, by decide, Tryz.func64.trans (congrArg some (by kernel_rfl))⟩
  t0 := Tryz.underlying0
  a0 := Tryz.isAgg0
  z0 := Tryz.sizeOf0
  v0 := Tryz.zeroValue0
  t3 := Tryz.underlying3
  a3 := Tryz.isAgg3
  z3 := Tryz.sizeOf3
  v3 := Tryz.zeroValue3
  t4 := Tryz.underlying4
  a4 := Tryz.isAgg4
  z4 := Tryz.sizeOf4
  v4 := Tryz.zeroValue4
  t22 := Tryz.underlying37
  a22 := Tryz.isAgg37
  z22 := Tryz.sizeOf37
  v22 := Tryz.zeroValue37
theorem eq64 : EqlAt Tryz.prog 31 (fun x => .agg (enc4 x).toArray) (fun x y => decide (x = y)) := by
  refine ⟨fun x y w => ?_, GuardAt.agg _ (by kernel_rfl)⟩
  have u3 := Tryz.underlying3
  have a3 := Tryz.isAgg3
  have z3 := Tryz.sizeOf3
  have hS : Tryz.prog.underlying 31 = some (.struct (Tryz.prog.fieldsOf 31)) := by kernel_rfl
  have hp : Tryz.prog.stoodInHeld 31 = false := by kernel_rfl
  simp only [enc4]
  rw [run_eql_struct, show (10000 : Nat) = 9999 + 1 from rfl, run_equalIn_agg w 9999 31 _ _ hS hp]
  simp only [Program.fieldsOf, Tryz.underlying31]
  go_simp
  have e : decide (x = y) = (decide (x.a = y.a) && decide (x.b = y.b) && decide (x.c = y.c) && decide (x.d = y.d)) := by
    cases x; cases y; simp [Bool.and_assoc]
  rw [e]
  by_cases h1 : x.a = y.a <;> by_cases h2 : x.b = y.b <;> by_cases h3 : x.c = y.c <;> by_cases h4 : x.d = y.d <;> simp [h1, h2, h3, h4]
theorem ne64 : NeqAt Tryz.prog 31 (fun x => .agg (enc4 x).toArray) (fun x y => decide (x = y)) := by
  refine ⟨fun x y w => ?_, eq64.2⟩
  have h := eq64.1 x y w
  rw [run_eql_struct] at h
  rw [run_neq_struct]
  revert h
  cases (Op.equalIn 10000 31 (.agg (enc4 x).toArray) (.agg (enc4 y).toArray)).run Tryz.prog w with
  | ok b w' => intro h; simp only [Result.andThen_ok] at h ⊢; cases h; rfl
  | halt h w' => intro h; cases h
noncomputable def slices_Compact64.f (k : Nat) (l : List S4) : Option (List S4) := compF l
noncomputable def slices_Compact64.e (k : Nat) : RV := ⟨31, .s4, slices_Compact64.f k⟩
theorem slices_Compact64.ok (k : Nat) : FunR Tryz.prog 64 (slices_Compact64.e k).H :=
  comp_ok sl64 rfl Tryz.isAgg31 Tryz.sizeOf31 (by kernel_rfl) eq64 ne64 Tryz.zeroValue31
theorem clip63 (A : Option Addr) (n cap : Nat) (w : World) (h : n ≤ cap) (h2 : A = none → cap = 0) : Calls Tryz.prog 63 #[.slice A n cap] w fun e w' => e = .returned (.slice A n n) ∧ w' = w := by
  cases A with
  | none =>
    obtain rfl := h2 rfl
    obtain rfl : n = 0 := by omega
    go_enter Tryz.func63, Tryz.ntmps63
    go_wp2
    go_ret
    exact ⟨rfl, rfl⟩
  | some a =>
    go_enter Tryz.func63, Tryz.ntmps63
    go_wp2
    go_ret
    exact ⟨rfl, rfl⟩
noncomputable def slices_Clip63.f (k : Nat) (l : List S4) : Option (List S4) := some l
noncomputable def slices_Clip63.e (k : Nat) : RV := ⟨31, .s4, slices_Clip63.f k⟩
theorem slices_Clip63.ok (k : Nat) : FunR Tryz.prog 63 (slices_Clip63.e k).H := clip_ok (by kernel_rfl) clip63
end Go.Proofs.YtalkkenkeilmpaaGreat.G
