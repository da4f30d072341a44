/- Is there room beside a list's sides, by both programs. -/
import Derived.Test.YtalkkenkeilmpaaGreatP3
namespace Go.Proofs.YtalkkenkeilmpaaGreat.Q
open Go Go.RowKit Go.Proofs Go.Proofs.YtalkkenkeilmpaaGreat.Ev Go.Proofs.YtalkkenkeilmpaaGreat.G
set_option linter.unusedSimpArgs false
set_option linter.unusedVariables false

theorem rdB {L : List S4} (h : ∀ p ∈ L, okp p = true) (i : Int) : Bd4 (rd L i) := by
  have z : Bd4 (default : S4) := ⟨⟨⟨by decide, by decide⟩, ⟨by decide, by decide⟩, by decide, by decide⟩, by decide, by decide⟩
  by_cases hi : i.toNat < L.length
  · have e : rd L i = L[i.toNat] := by simp [rd, List.getD_eq_getElem?_getD, hi]
    rw [e]; exact okp_bd4 (h _ (List.getElem_mem hi))
  · have e : rd L i = default := by simp [rd, List.getD_eq_getElem?_getD, hi]
    rw [e]; exact z
theorem rd_take {L : List S4} {n i : Nat} (h : i < n) : rd (L.take n) (i : Int) = rd L (i : Int) := by
  simp [rd, List.getD_eq_getElem?_getD, List.getElem?_take, h]
theorem take_ok {L : List S4} (h : ∀ p ∈ L, okp p = true) (n : Nat) : ∀ p ∈ L.take n, okp p = true := fun p hp => h p (List.mem_of_mem_take hp)
def w4 (L : List S4) (p : S4) (i j m : Nat) : Bool := c4 (rd L i) (rd L j) (rd L m) p
def w3 (L : List S4) (p : S4) (i j : Nat) : Bool := c3 (rd L i) (rd L j) p || anyF (w4 L p i j) (L.length - (j + 1)) (j + 1)
def w2 (L : List S4) (p : S4) (i : Nat) : Bool := c2 (rd L i) p || anyF (w3 L p i) (L.length - (i + 1)) (i + 1)
/-- does a plane clash with some of a list -/
def wl (L : List S4) (p : S4) : Bool := anyF (w2 L p) L.length 0
theorem or_lv {β : Type} {f : Nat → Option Bool} {a : Bool} {X r : β} {g : Nat → Nat → Option β} (hf : Ev f a) (hg : a = false → Lv g r) : Lv (fun k n => (f k).bind fun t => if t = true then some X else g k n) (if a = true then X else r) := by
  refine Lv.bind hf ?_
  cases a
  · exact (hg rfl).congr fun k n => by simp
  · exact .now fun k n => by simp
theorem wrn {α : Type} {L : List α} {c : Nat} (h : c < L.length) (hl : L.length ≤ 2097152) : W ((c : Int) + 1) = ((c + 1 : Nat) : Int) := by rw [W_id (by omega) (by omega)]; omega
theorem ite_or {β : Type} (a b : Bool) (X Y : β) : (if (a || b) = true then X else Y) = if a = true then X else if b = true then X else Y := by cases a <;> cases b <;> rfl

theorem with_l13 {L : List S4} {p : S4} (hb : ∀ i : Int, Bd4 (rd L i)) (hp : Bd4 p) (hl : L.length ≤ 2097152) {i j : Nat} (hi : i < L.length) (hj : j < L.length) : ∀ (d m : Nat), L.length - m = d → m ≤ L.length →
    Lv (fun k n => spec_l6With.l13 k n L (L.length : Int) (i : Int) (j : Int) (m : Int) p) (if anyF (w4 L p i j) d m = true then .inl ((true, ()), ()) else .inr ((L, (), (L.length : Int), (i : Int), (j : Int), ()), (p, ()))) := by
  intro d
  induction d with
  | zero =>
    intro m hd hm
    refine Lv.step (g := fun k n => spec_l6With.s13 k (spec_l6With.l13 k n) L (L.length : Int) (i : Int) (j : Int) (m : Int) p) ?_ (fun _ _ => rfl)
    simp only [spec_l6With.s13, decide_eq_true_eq, if_neg (show ¬ (m : Int) < (L.length : Int) by omega)]
    exact .now fun _ _ => rfl
  | succ d ih =>
    intro m hd hm
    have hm' : m < L.length := by omega
    refine Lv.step (g := fun k n => spec_l6With.s13 k (spec_l6With.l13 k n) L (L.length : Int) (i : Int) (j : Int) (m : Int) p) ?_ (fun _ _ => rfl)
    simp only [spec_l6With.s13, decide_eq_true_eq, if_pos (show (m : Int) < (L.length : Int) by omega), if_pos (show (i : Int) < (L.length : Int) by omega), if_pos (show (j : Int) < (L.length : Int) by omega), if_pos (Int.natCast_nonneg _), wrn hm' hl]
    rw [anyF, ite_or]
    exact or_lv (l6Clash4_ev (hb i) (hb j) (hb m) hp) fun _ => ih (m + 1) (by omega) (by omega)
theorem with_l8 {L : List S4} {p : S4} (hb : ∀ i : Int, Bd4 (rd L i)) (hp : Bd4 p) (hl : L.length ≤ 2097152) {i : Nat} (hi : i < L.length) : ∀ (d j : Nat), L.length - j = d → j ≤ L.length →
    Lv (fun k n => spec_l6With.l8 k n L (L.length : Int) (i : Int) (j : Int) p) (if anyF (w3 L p i) d j = true then .inl ((true, ()), ()) else .inr ((L, (), (L.length : Int), (i : Int), ()), (p, ()))) := by
  intro d
  induction d with
  | zero =>
    intro m hd hm
    refine Lv.step (g := fun k n => spec_l6With.s8 k (spec_l6With.l8 k n) L (L.length : Int) (i : Int) (m : Int) p) ?_ (fun _ _ => rfl)
    simp only [spec_l6With.s8, decide_eq_true_eq, if_neg (show ¬ (m : Int) < (L.length : Int) by omega)]
    exact .now fun _ _ => rfl
  | succ d ih =>
    intro j hd hj
    have hj' : j < L.length := by omega
    refine Lv.step (g := fun k n => spec_l6With.s8 k (spec_l6With.l8 k n) L (L.length : Int) (i : Int) (j : Int) p) ?_ (fun _ _ => rfl)
    simp only [spec_l6With.s8, decide_eq_true_eq, if_pos (show (i : Int) < (L.length : Int) by omega), if_pos (show (j : Int) < (L.length : Int) by omega), if_pos (Int.natCast_nonneg _), wrn hj' hl, anyF, w3, Bool.or_assoc, ite_or]
    refine or_lv (l6Clash3_ev (hb i) (hb j) hp) fun _ => ?_
    refine Lv.bind (with_l13 hb hp hl hi hj' (L.length - (j + 1)) (j + 1) rfl (by omega)).ev ?_
    by_cases c : anyF (w4 L p i j) (L.length - (j + 1)) (j + 1) = true
    · simp only [if_pos c]; exact .now fun _ _ => rfl
    · simp only [if_neg c, wrn hj' hl]; exact ih (j + 1) (by omega) (by omega)
theorem with_l3 {L : List S4} {p : S4} (hb : ∀ i : Int, Bd4 (rd L i)) (hp : Bd4 p) (hl : L.length ≤ 2097152) : ∀ (d i : Nat), L.length - i = d → i ≤ L.length →
    Lv (fun k n => spec_l6With.l3 k n L (L.length : Int) (i : Int) p) (if anyF (w2 L p) d i = true then .inl ((true, ()), ()) else .inr ((), ())) := by
  intro d
  induction d with
  | zero =>
    intro m hd hm
    refine Lv.step (g := fun k n => spec_l6With.s3 k (spec_l6With.l3 k n) L (L.length : Int) (m : Int) p) ?_ (fun _ _ => rfl)
    simp only [spec_l6With.s3, decide_eq_true_eq, if_neg (show ¬ (m : Int) < (L.length : Int) by omega)]
    exact .now fun _ _ => rfl
  | succ d ih =>
    intro i hd hi
    have hi' : i < L.length := by omega
    refine Lv.step (g := fun k n => spec_l6With.s3 k (spec_l6With.l3 k n) L (L.length : Int) (i : Int) p) ?_ (fun _ _ => rfl)
    simp only [spec_l6With.s3, decide_eq_true_eq, if_pos (show (i : Int) < (L.length : Int) by omega), if_pos (Int.natCast_nonneg _), wrn hi' hl, anyF, w2, Bool.or_assoc, ite_or]
    refine or_lv (Ev.now fun k => l6Clash2_f k (hb i) hp) fun _ => ?_
    refine Lv.bind (with_l8 hb hp hl hi' (L.length - (i + 1)) (i + 1) rfl (by omega)).ev ?_
    by_cases c : anyF (w3 L p i) (L.length - (i + 1)) (i + 1) = true
    · simp only [if_pos c]; exact .now fun _ _ => rfl
    · simp only [if_neg c, wrn hi' hl]; exact ih (i + 1) (by omega) (by omega)
theorem l6With_ev {L : List S4} {p : S4} (hL : ∀ p ∈ L, okp p = true) (hp : Bd4 p) (hl : L.length ≤ 2097152) : Ev (fun k => spec_l6With.f k L p) (wl L p) := by
  simp only [spec_l6With.f]
  refine Ev.bind (with_l3 (rdB hL) hp hl L.length 0 (by omega) (by omega)).ev ?_
  unfold wl
  cases anyF (w2 L p) L.length 0 <;> exact .now fun _ => rfl

-- impl
def r4 (T : List S4) (r q p : S4) (m : Nat) : Bool := c4 (rd T m) r q p
def r3 (L T : List S4) (q p : S4) (j : Nat) : Bool := c3 (rd T j) q p || anyF (r4 (L.take j) (rd T j) q p) j 0
def r2 (L : List S4) (p : S4) (i : Nat) : Bool := c2 (rd L i) p || anyF (r3 L (L.take i) (rd L i) p) i 0
theorem room_l12 {L T1 T2 : List S4} {p q r : S4} (hb : ∀ i : Int, Bd4 (rd T2 i)) (hp : Bd4 p) (hq : Bd4 q) (hr : Bd4 r) (hl2 : T2.length ≤ 2097152) {u v x y : Int} : ∀ (d m : Nat), T2.length - m = d → m ≤ T2.length →
    Lv (fun k n => impl_room.l12 k n L L u v T1 x y T2 (T2.length : Int) (m : Int) p q r) (if anyF (r4 T2 r q p) d m = true then .inl ((false, ()), ()) else .inr ((L, (), (), L, u, v, T1, x, y, ()), (p, q, ()))) := by
  intro d
  induction d with
  | zero =>
    intro m hd hm
    refine Lv.step (g := fun k n => impl_room.s12 k (impl_room.l12 k n) L L u v T1 x y T2 (T2.length : Int) (m : Int) p q r) ?_ (fun _ _ => rfl)
    simp only [impl_room.s12, decide_eq_true_eq, if_neg (show ¬ (m : Int) < (T2.length : Int) by omega)]
    exact .now fun _ _ => rfl
  | succ d ih =>
    intro m hd hm
    have hm' : m < T2.length := by omega
    refine Lv.step (g := fun k n => impl_room.s12 k (impl_room.l12 k n) L L u v T1 x y T2 (T2.length : Int) (m : Int) p q r) ?_ (fun _ _ => rfl)
    simp only [impl_room.s12, decide_eq_true_eq, if_pos (show (m : Int) < (T2.length : Int) by omega), if_pos (Int.natCast_nonneg _), wrn hm' hl2]
    rw [anyF, ite_or]
    exact or_lv (clash4_ev (hb m) hr hq hp) fun _ => ih (m + 1) (by omega) (by omega)
theorem room_l7 {L T1 : List S4} {p q : S4} (hL : ∀ p ∈ L, okp p = true) (hb : ∀ i : Int, Bd4 (rd T1 i)) (hp : Bd4 p) (hq : Bd4 q) (hl : L.length ≤ 2097152) (hl1 : T1.length ≤ L.length) {u v : Int} : ∀ (d j : Nat), T1.length - j = d → j ≤ T1.length →
    Lv (fun k n => impl_room.l7 k n L L u v T1 (T1.length : Int) (j : Int) p q) (if anyF (r3 L T1 q p) d j = true then .inl ((false, ()), ()) else .inr ((L, (), L, u, v, ()), (p, ()))) := by
  intro d
  induction d with
  | zero =>
    intro m hd hm
    refine Lv.step (g := fun k n => impl_room.s7 k (impl_room.l7 k n) L L u v T1 (T1.length : Int) (m : Int) p q) ?_ (fun _ _ => rfl)
    simp only [impl_room.s7, decide_eq_true_eq, if_neg (show ¬ (m : Int) < (T1.length : Int) by omega)]
    exact .now fun _ _ => rfl
  | succ d ih =>
    intro j hd hj
    have hj' : j < T1.length := by omega
    have lt : (L.take j).length = j := by rw [List.length_take]; omega
    refine Lv.step (g := fun k n => impl_room.s7 k (impl_room.l7 k n) L L u v T1 (T1.length : Int) (j : Int) p q) ?_ (fun _ _ => rfl)
    simp only [impl_room.s7, decide_eq_true_eq, if_pos (show (j : Int) < (T1.length : Int) by omega), if_pos (show (j : Int) ≤ (L.length : Int) by omega), if_pos (Int.natCast_nonneg _), Int.toNat_natCast, anyF, r3, Bool.or_assoc, ite_or]
    refine or_lv (clash3_ev (hb j) hq hp) fun _ => ?_
    have k2 := room_l12 (L := L) (T1 := T1) (T2 := L.take j) (p := p) (q := q) (r := rd T1 j) (u := u) (v := v) (x := (T1.length : Int)) (y := (j : Int)) (rdB (take_ok hL j)) hp hq (hb j) (by omega) j 0 (by omega) (by omega)
    refine Lv.bind k2.ev ?_
    by_cases c : anyF (r4 (L.take j) (rd T1 (j : Int)) q p) j 0 = true
    · simp only [if_pos c]; exact .now fun _ _ => rfl
    · simp only [if_neg c, wrn hj' (show T1.length ≤ 2097152 by omega)]; exact ih (j + 1) (by omega) (by omega)
theorem room_l2 {L : List S4} {p : S4} (hL : ∀ p ∈ L, okp p = true) (hp : Bd4 p) (hl : L.length ≤ 2097152) : ∀ (d i : Nat), L.length - i = d → i ≤ L.length →
    Lv (fun k n => impl_room.l2 k n L L (L.length : Int) (i : Int) p) (if anyF (r2 L p) d i = true then .inl ((false, ()), ()) else .inr ((), ())) := by
  intro d
  induction d with
  | zero =>
    intro m hd hm
    refine Lv.step (g := fun k n => impl_room.s2 k (impl_room.l2 k n) L L (L.length : Int) (m : Int) p) ?_ (fun _ _ => rfl)
    simp only [impl_room.s2, decide_eq_true_eq, if_neg (show ¬ (m : Int) < (L.length : Int) by omega)]
    exact .now fun _ _ => rfl
  | succ d ih =>
    intro i hd hi
    have hi' : i < L.length := by omega
    have lt : (L.take i).length = i := by rw [List.length_take]; omega
    refine Lv.step (g := fun k n => impl_room.s2 k (impl_room.l2 k n) L L (L.length : Int) (i : Int) p) ?_ (fun _ _ => rfl)
    simp only [impl_room.s2, decide_eq_true_eq, if_pos (show (i : Int) < (L.length : Int) by omega), if_pos (show (i : Int) ≤ (L.length : Int) by omega), if_pos (Int.natCast_nonneg _), Int.toNat_natCast, anyF, r2, Bool.or_assoc, ite_or]
    refine or_lv (clash2_ev (rdB hL i) hp) fun _ => ?_
    refine Lv.bind (room_l7 (T1 := L.take i) (q := rd L i) (u := (L.length : Int)) (v := (i : Int)) hL (rdB (take_ok hL i)) hp (rdB hL i) hl (by omega) i 0 (by omega) (by omega)).ev ?_
    by_cases c : anyF (r3 L (L.take i) (rd L (i : Int)) p) i 0 = true
    · simp only [if_pos c]; exact .now fun _ _ => rfl
    · simp only [if_neg c, wrn hi' hl]; exact ih (i + 1) (by omega) (by omega)
theorem r_w {L : List S4} {p : S4} : anyF (r2 L p) L.length 0 = wl L p := by
  rw [Bool.eq_iff_iff]
  unfold wl
  simp only [anyF_iff, r2, w2, r3, w3, r4, w4, Bool.or_eq_true]
  constructor
  · rintro ⟨i, _, h1, h | ⟨j, _, h2, h | ⟨m, _, h3, h⟩⟩⟩
    · exact ⟨i, by omega, h1, .inl h⟩
    · rw [rd_take (by omega)] at h
      exact ⟨j, by omega, by omega, .inr ⟨i, by omega, by omega, .inl h⟩⟩
    · rw [rd_take (by omega), rd_take (by omega)] at h
      exact ⟨m, by omega, by omega, .inr ⟨j, by omega, by omega, .inr ⟨i, by omega, by omega, h⟩⟩⟩
  · rintro ⟨i, _, h1, h | ⟨j, h2, h3, h | ⟨m, h4, h5, h⟩⟩⟩
    · exact ⟨i, by omega, h1, .inl h⟩
    · exact ⟨j, by omega, by omega, .inr ⟨i, by omega, by omega, .inl (by rw [rd_take (by omega)]; exact h)⟩⟩
    · exact ⟨m, by omega, by omega, .inr ⟨j, by omega, by omega, .inr ⟨i, by omega, by omega, by rw [rd_take (by omega), rd_take (by omega)]; exact h⟩⟩⟩
theorem room_ev {L : List S4} {p : S4} (hL : ∀ p ∈ L, okp p = true) (hp : Bd4 p) (hl : L.length ≤ 2097152) : Ev (fun k => impl_room.f k L p) (!wl L p) := by
  rw [← r_w]
  simp only [impl_room.f]
  refine Ev.bind (room_l2 hL hp hl L.length 0 (by omega) (by omega)).ev ?_
  cases anyF (r2 L p) L.length 0 <;> exact .now fun _ => rfl
theorem lt47_ok {n : Nat} (h : n < 2199023255552) : lt47 n = true := lt47_iff.2 h
end Go.Proofs.YtalkkenkeilmpaaGreat.Q
