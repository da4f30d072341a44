/- No room: just where there are weights. -/
import Derived.Test.YtlkcpldohlemcaaN7
namespace Go.Proofs.Ytlkcpldohlemcaa.Q
open Go Go.RowKit Go.Proofs Go.Proofs.Ytlkcpldohlemcaa.Ev Go.Proofs.Ytlkcpldohlemcaa.G
set_option linter.unusedSimpArgs false
set_option linter.unusedVariables false

theorem rd_ok {L : List S4} (hL : ∀ p ∈ L, okp p = true) {i : Nat} (h : i < L.length) : okp (rd L i) = true := by
  rw [rd_in h]; exact hL _ (List.getElem_mem _)
def m4 (i j k m : Nat) (a b c d : Int) (x : Nat) : Int := if x = i then a else if x = j then b else if x = k then c else if x = m then d else 0
theorem m4_sum {i j k m : Nat} {a b c d : Int} {l : List Nat} (h : (i :: j :: k :: m :: l).Pairwise (· < ·)) (f : Nat → Int) : ls (fun x => m4 i j k m a b c d x * f x) (i :: j :: k :: m :: l) = a * f i + b * f j + c * f k + d * f m := by
  simp only [List.pairwise_cons, List.mem_cons, forall_eq_or_imp] at h
  obtain ⟨⟨h1, h2, h3, h4⟩, ⟨h5, h6, h7⟩, ⟨h8, h9⟩, h10, _⟩ := h
  have z : ls (fun x => m4 i j k m a b c d x * f x) l = 0 := ls_zero fun x hx => by
    have := h4 x hx; have := h7 x hx; have := h9 x hx; have := h10 x hx
    unfold m4
    rw [if_neg (by omega), if_neg (by omega), if_neg (by omega), if_neg (by omega), Int.zero_mul]
  simp only [ls]
  rw [z]
  have e1 : m4 i j k m a b c d i = a := if_pos rfl
  have e2 : m4 i j k m a b c d j = b := by unfold m4; rw [if_neg (by omega), if_pos rfl]
  have e3 : m4 i j k m a b c d k = c := by unfold m4; rw [if_neg (by omega), if_neg (by omega), if_pos rfl]
  have e4 : m4 i j k m a b c d m = d := by unfold m4; rw [if_neg (by omega), if_neg (by omega), if_neg (by omega), if_pos rfl]
  rw [e1, e2, e3, e4]; omega
def m3 (i j k : Nat) (a b c : Int) (x : Nat) : Int := if x = i then a else if x = j then b else if x = k then c else 0
theorem m3_sum {i j k : Nat} {a b c : Int} {l : List Nat} (h : (i :: j :: k :: l).Pairwise (· < ·)) (f : Nat → Int) : ls (fun x => m3 i j k a b c x * f x) (i :: j :: k :: l) = a * f i + b * f j + c * f k := by
  simp only [List.pairwise_cons, List.mem_cons, forall_eq_or_imp] at h
  obtain ⟨⟨h1, h2, h4⟩, ⟨h5, h7⟩, h9, _⟩ := h
  have z : ls (fun x => m3 i j k a b c x * f x) l = 0 := ls_zero fun x hx => by
    have := h4 x hx; have := h7 x hx; have := h9 x hx
    unfold m3
    rw [if_neg (by omega), if_neg (by omega), if_neg (by omega), Int.zero_mul]
  simp only [ls]
  rw [z]
  have e1 : m3 i j k a b c i = a := if_pos rfl
  have e2 : m3 i j k a b c j = b := by unfold m3; rw [if_neg (by omega), if_pos rfl]
  have e3 : m3 i j k a b c k = c := by unfold m3; rw [if_neg (by omega), if_neg (by omega), if_pos rfl]
  rw [e1, e2, e3]; omega
theorem cert_opn {L : List S4} (hL : ∀ p ∈ L, okp p = true) : ∀ (n : Nat) (l : List Nat) (u : Nat → Int), l.length ≤ n → Cert L l u → opn L = false := by
  intro n
  induction n with
  | zero => intro l u hl h; exact absurd (List.eq_nil_of_length_eq_zero (by omega)) h.ne
  | succ n ih =>
    intro l u hl h
    have fewer : ∀ m : Nat → Int, Nul L l m → (∃ i ∈ l, m i = 0) → (∃ i ∈ l, m i ≠ 0) → opn L = false := fun m h1 h2 h3 => by
      obtain ⟨l', u', hc, hl'⟩ := h.less h1 h2 h3
      exact ih l' u' (by omega) hc
    match l, h with
    | [], h => exact absurd rfl h.ne
    | [i], h =>
      have hi := h.lt i (by simp)
      have ui := h.pos i (by simp)
      have ha := h.nul.a; have hb := h.nul.b; have hc := h.nul.c
      simp only [ls, wA, wB, wC, Int.add_zero] at ha hb hc
      have z := okp_nz (rd_ok hL hi)
      refine absurd ?_ z
      simp only [ip, v3, (Int.mul_eq_zero.1 ha).resolve_left (by omega), (Int.mul_eq_zero.1 hb).resolve_left (by omega), (Int.mul_eq_zero.1 hc).resolve_left (by omega)]; rfl
    | [i, j], h =>
      have hi := h.lt i (by simp)
      have hj := h.lt j (by simp)
      have ui := h.pos i (by simp)
      have uj := h.pos j (by simp)
      have inc := h.inc
      simp at inc
      have ha := h.nul.a; have hb := h.nul.b; have hc := h.nul.c; have hd := h.d
      simp only [ls, wA, wB, wC, wD, Int.add_zero] at ha hb hc hd
      exact clash_2 inc hj (c2_of (rd_ok hL hi) (rd_ok hL hj) ui uj ha hb hc hd)
    | [i, j, k], h =>
      have hi := h.lt i (by simp)
      have hj := h.lt j (by simp)
      have hk := h.lt k (by simp)
      have ui := h.pos i (by simp)
      have uj := h.pos j (by simp)
      have uk := h.pos k (by simp)
      have inc := h.inc
      have inc2 : (i < j ∧ i < k) ∧ j < k := by simpa using inc
      have ha := h.nul.a; have hb := h.nul.b; have hc := h.nul.c; have hd := h.d
      simp only [ls, wA, wB, wC, wD, Int.add_zero, ← Int.add_assoc] at ha hb hc hd
      by_cases hN : cx (v3 (rd L i)) (v3 (rd L j)) = z3
      · obtain ⟨c1, c2, c3⟩ := cx_zero.1 hN
        have nq := okp_nz (rd_ok hL hj)
        refine fewer (m3 i j k (ip (v3 (rd L j)) (v3 (rd L j))) (-ip (v3 (rd L i)) (v3 (rd L j))) 0) ⟨?_, ?_, ?_⟩ ⟨k, by simp, ?_⟩ ⟨i, by simp, ?_⟩
        · unfold wA; rw [m3_sum inc (fun x => (rd L (x : Int)).a)]; simp only [ip, v3] at c1 c2 c3 ⊢; grind
        · unfold wB; rw [m3_sum inc (fun x => (rd L (x : Int)).b)]; simp only [ip, v3] at c1 c2 c3 ⊢; grind
        · unfold wC; rw [m3_sum inc (fun x => (rd L (x : Int)).c)]; simp only [ip, v3] at c1 c2 c3 ⊢; grind
        · unfold m3; rw [if_neg (by omega), if_neg (by omega), if_pos rfl]
        · unfold m3; rw [if_pos rfl]; exact nq
      · exact clash_3 inc2.1.1 inc2.2 hk (c3_of hN ui uj uk (by omega) (by omega) (by omega) (by omega))
    | [i, j, k, m], h =>
      have hi := h.lt i (by simp)
      have hj := h.lt j (by simp)
      have hk := h.lt k (by simp)
      have hm := h.lt m (by simp)
      have ui := h.pos i (by simp)
      have uj := h.pos j (by simp)
      have uk := h.pos k (by simp)
      have um := h.pos m (by simp)
      have inc := h.inc
      have inc2 : (i < j ∧ i < k ∧ i < m) ∧ (j < k ∧ j < m) ∧ k < m := by simpa using inc
      have ha := h.nul.a; have hb := h.nul.b; have hc := h.nul.c; have hd := h.d
      simp only [ls, wA, wB, wC, wD, Int.add_zero, ← Int.add_assoc] at ha hb hc hd
      by_cases hT : dt (v3 (rd L i)) (v3 (rd L j)) (v3 (rd L k)) = 0
      · obtain ⟨x, y, z, hn, e1, e2, e3⟩ := dep3 hT
        refine fewer (m4 i j k m x y z 0) ⟨?_, ?_, ?_⟩ ⟨m, by simp, ?_⟩ ?_
        · unfold wA; rw [m4_sum inc (fun x => (rd L (x : Int)).a)]; simp only [v3] at e1; omega
        · unfold wB; rw [m4_sum inc (fun x => (rd L (x : Int)).b)]; simp only [v3] at e2; omega
        · unfold wC; rw [m4_sum inc (fun x => (rd L (x : Int)).c)]; simp only [v3] at e3; omega
        · unfold m4; rw [if_neg (by omega), if_neg (by omega), if_neg (by omega), if_pos rfl]
        · rcases hn with hn | hn | hn
          · exact ⟨i, by simp, by unfold m4; rw [if_pos rfl]; exact hn⟩
          · exact ⟨j, by simp, by unfold m4; rw [if_neg (by omega), if_pos rfl]; exact hn⟩
          · exact ⟨k, by simp, by unfold m4; rw [if_neg (by omega), if_neg (by omega), if_pos rfl]; exact hn⟩
      · exact clash_4 inc2.1.1 inc2.2.1.1 inc2.2.2 hm (c4_of hT ui uj uk um (by omega) (by omega) (by omega) (by omega))
    | i :: j :: k :: m :: x :: l, h =>
      have inc := h.inc
      have inc2 : i < j ∧ i < k ∧ i < m ∧ i < x ∧ j < k ∧ j < m ∧ j < x ∧ k < m ∧ k < x ∧ m < x := by
        simp only [List.pairwise_cons, List.mem_cons, forall_eq_or_imp] at inc
        obtain ⟨⟨h1, h2, h3, h4, _⟩, ⟨h5, h6, h7, _⟩, ⟨h8, h9, _⟩, ⟨h10, _⟩, _⟩ := inc
        omega
      obtain ⟨u1, u2, u3, u4, hn, e1, e2, e3⟩ := dep4 (v3 (rd L i)) (v3 (rd L j)) (v3 (rd L k)) (v3 (rd L m))
      refine fewer (m4 i j k m u1 u2 u3 u4) ⟨?_, ?_, ?_⟩ ⟨x, by simp, ?_⟩ ?_
      · unfold wA; rw [m4_sum inc (fun x => (rd L (x : Int)).a)]; simp only [v3] at e1; omega
      · unfold wB; rw [m4_sum inc (fun x => (rd L (x : Int)).b)]; simp only [v3] at e2; omega
      · unfold wC; rw [m4_sum inc (fun x => (rd L (x : Int)).c)]; simp only [v3] at e3; omega
      · unfold m4; rw [if_neg (by omega), if_neg (by omega), if_neg (by omega), if_neg (by omega)]
      · rcases hn with hn | hn | hn | hn
        · exact ⟨i, by simp, by unfold m4; rw [if_pos rfl]; exact hn⟩
        · exact ⟨j, by simp, by unfold m4; rw [if_neg (by omega), if_pos rfl]; exact hn⟩
        · exact ⟨k, by simp, by unfold m4; rw [if_neg (by omega), if_neg (by omega), if_pos rfl]; exact hn⟩
        · exact ⟨m, by simp, by unfold m4; rw [if_neg (by omega), if_neg (by omega), if_neg (by omega), if_pos rfl]; exact hn⟩
/-- weights of all places, not below 0 -/
structure Full (L : List S4) (v : Nat → Int) : Prop where
  nn : ∀ i, i < L.length → 0 ≤ v i
  ne : ∃ i, i < L.length ∧ v i ≠ 0
  nul : Nul L (List.range L.length) v
  d : ls (wD L v) (List.range L.length) ≤ 0
theorem Full.opn {L : List S4} {v : Nat → Int} (h : Full L v) (hL : ∀ p ∈ L, okp p = true) : opn L = false := by
  refine cert_opn hL _ _ v (Nat.le_refl _) (Cert.mk0 (l := List.range L.length) (fun i hi => List.mem_range.1 hi) List.pairwise_lt_range (fun i hi => h.nn i (List.mem_range.1 hi)) ?_ h.nul h.d)
  obtain ⟨i, hi, hv⟩ := h.ne
  exact ⟨i, List.mem_range.2 hi, hv⟩
/-- one place's weight -/
def sg1 (j : Nat) (x : Int) (i : Nat) : Int := if i = j then x else 0
theorem sg1_sum {j n : Nat} (h : j < n) (x : Int) (f : Nat → Int) : ls (fun i => sg1 j x i * f i) (List.range n) = x * f j := by
  induction n with
  | zero => omega
  | succ n ih =>
    rw [List.range_succ, ls_app]
    simp only [ls, Int.add_zero]
    by_cases c : j = n
    · subst c
      rw [ls_zero fun i hi => by rw [List.mem_range] at hi; unfold sg1; rw [if_neg (by omega), Int.zero_mul]]
      unfold sg1; rw [if_pos rfl]; omega
    · rw [ih (by omega)]
      unfold sg1; rw [if_neg (by omega)]; omega
def sg4 (i j k m : Nat) (a b c d : Int) (x : Nat) : Int := sg1 i a x + sg1 j b x + sg1 k c x + sg1 m d x
theorem sg4_sum {i j k m n : Nat} (hi : i < n) (hj : j < n) (hk : k < n) (hm : m < n) (a b c d : Int) (f : Nat → Int) : ls (fun x => sg4 i j k m a b c d x * f x) (List.range n) = a * f i + b * f j + c * f k + d * f m := by
  have e : ls (fun x => sg4 i j k m a b c d x * f x) (List.range n) = ls (fun x => 1 * (1 * (sg1 i a x * f x) + 1 * (sg1 j b x * f x)) + 1 * (1 * (sg1 k c x * f x) + 1 * (sg1 m d x * f x))) (List.range n) := ls_congr fun x _ => by unfold sg4; grind
  rw [e, ls_lin, ls_lin, ls_lin, sg1_sum hi, sg1_sum hj, sg1_sum hk, sg1_sum hm]; omega
theorem full4 {L : List S4} {i j k m : Nat} (hi : i < L.length) (hj : j < L.length) (hk : k < L.length) (hm : m < L.length) {a b c d : Int} (ha : 0 < a) (hb : 0 ≤ b) (hc : 0 ≤ c) (hd : 0 ≤ d)
    (e1 : a * (rd L i).a + b * (rd L j).a + c * (rd L k).a + d * (rd L m).a = 0) (e2 : a * (rd L i).b + b * (rd L j).b + c * (rd L k).b + d * (rd L m).b = 0) (e3 : a * (rd L i).c + b * (rd L j).c + c * (rd L k).c + d * (rd L m).c = 0) (e4 : a * (rd L i).d + b * (rd L j).d + c * (rd L k).d + d * (rd L m).d ≤ 0) : Full L (sg4 i j k m a b c d) where
  nn := fun x _ => by unfold sg4 sg1; split <;> split <;> split <;> split <;> omega
  ne := ⟨i, hi, by unfold sg4 sg1; rw [if_pos rfl]; split <;> split <;> split <;> omega⟩
  nul := ⟨by unfold wA; rw [sg4_sum hi hj hk hm _ _ _ _ (fun x => (rd L (x : Int)).a)]; exact e1, by unfold wB; rw [sg4_sum hi hj hk hm _ _ _ _ (fun x => (rd L (x : Int)).b)]; exact e2, by unfold wC; rw [sg4_sum hi hj hk hm _ _ _ _ (fun x => (rd L (x : Int)).c)]; exact e3⟩
  d := by unfold wD; rw [sg4_sum hi hj hk hm _ _ _ _ (fun x => (rd L (x : Int)).d)]; exact e4
theorem ab_nn (x : Int) : 0 ≤ ab x := by unfold ab; omega
theorem l1n_pos {p : S4} (h : okp p = true) : 0 < l1n p := by
  have := okp_nz h
  refine Int.not_le.1 fun h0 => this ?_
  unfold l1n ab at h0
  have h1 : p.a = 0 := by omega
  have h2 : p.b = 0 := by omega
  have h3 : p.c = 0 := by omega
  simp only [ip, v3, h1, h2, h3]; rfl
/-- parallel and the other way round: the weights by the sums of sizes. -/
theorem par_neg {p q : S4} (hq : okp q = true) (h : par (v3 p) (v3 q) < 0) : l1n q * p.a + l1n p * q.a = 0 ∧ l1n q * p.b + l1n p * q.b = 0 ∧ l1n q * p.c + l1n p * q.c = 0 := by
  unfold par at h
  split at h
  case isFalse => omega
  rename_i hc
  have hn : ip (v3 p) (v3 q) < 0 := by
    unfold sgn at h
    split at h
    · omega
    · split at h
      · assumption
      · omega
  obtain ⟨e1, e2, e3⟩ := along hc
  have q0 := okp_nz hq
  have qn := ip_nn (v3 q)
  have Z0 : 0 < ip (v3 q) (v3 q) := by omega
  simp only [show (v3 p).x = p.a from rfl, show (v3 p).y = p.b from rfl, show (v3 p).z = p.c from rfl, show (v3 q).x = q.a from rfl, show (v3 q).y = q.b from rfl, show (v3 q).z = q.c from rfl] at e1 e2 e3
  generalize ip (v3 q) (v3 q) = Z at *
  generalize ip (v3 p) (v3 q) = N at *
  have aN : ab N = -N := by unfold ab; omega
  have aZ : ab Z = Z := ab_pos Z0
  have s : ∀ {x y : Int}, N * y = x * Z → -N * ab y = Z * ab x := fun {x y} h => by
    have h1 : ab (N * y) = ab (x * Z) := by rw [h]
    rw [ab_mul, ab_mul, aN, aZ] at h1; rw [h1]; exact Int.mul_comm _ _
  have e : -N * l1n q = Z * l1n p := by
    have := s e1; have := s e2; have := s e3
    unfold l1n; grind
  have fin : ∀ {x y : Int}, N * y = x * Z → l1n q * x + l1n p * y = 0 := fun {x y} h => by
    have : Z * (l1n q * x + l1n p * y) = 0 := by
      have h1 : Z * (l1n q * x + l1n p * y) = l1n q * (x * Z) + (Z * l1n p) * y := by grind
      rw [h1, ← h, ← e]; grind
    exact (Int.mul_eq_zero.1 this).resolve_left (by omega)
  exact ⟨fin e1, fin e2, fin e3⟩
theorem opn_full {L : List S4} (hL : ∀ p ∈ L, okp p = true) (h : opn L = false) : ∃ v, Full L v := by
  rcases clash_of h with ⟨i, j, hij, hj, hc⟩ | ⟨i, j, k, hij, hjk, hk, hc⟩ | ⟨i, j, k, m, hij, hjk, hkm, hm, hc⟩
  · unfold c2 at hc
    rw [decide_eq_true_eq] at hc
    have oj := rd_ok hL hj
    have oi := rd_ok hL (show i < L.length by omega)
    obtain ⟨e1, e2, e3⟩ := par_neg oj hc.1
    have := l1n_pos oi
    exact ⟨_, full4 (i := i) (j := j) (k := j) (m := j) (b := l1n (rd L i)) (c := 0) (d := 0) (by omega) hj hj hj (l1n_pos oj) (by omega) (by omega) (by omega) (by omega) (by omega) (by omega) (by have := hc.2; omega)⟩
  · unfold c3 at hc
    rw [decide_eq_true_eq] at hc
    obtain ⟨h0, hs, hd⟩ := hc
    have hi : i < L.length := by omega
    have hj : j < L.length := by omega
    -- the weights bind
    have E : (ip (cx (v3 (rd L j)) (v3 (rd L k))) (cx (v3 (rd L i)) (v3 (rd L j)))) * (rd L i).a + (ip (cx (v3 (rd L k)) (v3 (rd L i))) (cx (v3 (rd L i)) (v3 (rd L j)))) * (rd L j).a + (ip (cx (v3 (rd L i)) (v3 (rd L j))) (cx (v3 (rd L i)) (v3 (rd L j)))) * (rd L k).a = 0 ∧ (ip (cx (v3 (rd L j)) (v3 (rd L k))) (cx (v3 (rd L i)) (v3 (rd L j)))) * (rd L i).b + (ip (cx (v3 (rd L k)) (v3 (rd L i))) (cx (v3 (rd L i)) (v3 (rd L j)))) * (rd L j).b + (ip (cx (v3 (rd L i)) (v3 (rd L j))) (cx (v3 (rd L i)) (v3 (rd L j)))) * (rd L k).b = 0 ∧ (ip (cx (v3 (rd L j)) (v3 (rd L k))) (cx (v3 (rd L i)) (v3 (rd L j)))) * (rd L i).c + (ip (cx (v3 (rd L k)) (v3 (rd L i))) (cx (v3 (rd L i)) (v3 (rd L j)))) * (rd L j).c + (ip (cx (v3 (rd L i)) (v3 (rd L j))) (cx (v3 (rd L i)) (v3 (rd L j)))) * (rd L k).c = 0 := by
      refine ⟨?_, ?_, ?_⟩
      all_goals
        simp only [dt, ip, cx, v3] at h0 ⊢
        grind
    generalize ip (cx (v3 (rd L j)) (v3 (rd L k))) (cx (v3 (rd L i)) (v3 (rd L j))) = X at *
    generalize ip (cx (v3 (rd L k)) (v3 (rd L i))) (cx (v3 (rd L i)) (v3 (rd L j))) = Y at *
    generalize ip (cx (v3 (rd L i)) (v3 (rd L j))) (cx (v3 (rd L i)) (v3 (rd L j))) = Z at *
    obtain ⟨e1, e2, e3⟩ := E
    rcases hs with ⟨x0, y0, z0⟩ | ⟨x0, y0, z0⟩
    · rw [ab_pos x0, ab_pos y0, ab_pos z0] at hd
      exact ⟨_, full4 (i := i) (j := j) (k := k) (m := k) (d := 0) hi hj hk hk x0 (b := Y) (c := Z) (by omega) (by omega) (by omega) (by omega) (by omega) (by omega) (by omega)⟩
    · have n : ∀ x : Int, x < 0 → ab x = -x := fun x hx => by unfold ab; omega
      rw [n X x0, n Y y0, n Z z0] at hd
      refine ⟨_, full4 (i := i) (j := j) (k := k) (m := k) (d := 0) hi hj hk hk (a := -X) (by omega) (b := -Y) (c := -Z) (by omega) (by omega) (by omega) ?_ ?_ ?_ (by omega)⟩ <;> grind
  · unfold c4 at hc
    rw [decide_eq_true_eq] at hc
    obtain ⟨hs, hd⟩ := hc
    have hi : i < L.length := by omega
    have hj : j < L.length := by omega
    have hk : k < L.length := by omega
    have E : ∀ f : S4 → Int, (f = fun s => s.a) ∨ (f = fun s => s.b) ∨ (f = fun s => s.c) → dt (v3 (rd L j)) (v3 (rd L k)) (v3 (rd L m)) * f (rd L i) + -dt (v3 (rd L i)) (v3 (rd L k)) (v3 (rd L m)) * f (rd L j) + dt (v3 (rd L i)) (v3 (rd L j)) (v3 (rd L m)) * f (rd L k) + -dt (v3 (rd L i)) (v3 (rd L j)) (v3 (rd L k)) * f (rd L m) = 0 := fun f hf => by
      rcases hf with rfl | rfl | rfl <;> simp only [dt, ip, cx, v3] <;> grind
    have e1 := E _ (.inl rfl)
    have e2 := E _ (.inr (.inl rfl))
    have e3 := E _ (.inr (.inr rfl))
    generalize dt (v3 (rd L j)) (v3 (rd L k)) (v3 (rd L m)) = X at *
    generalize -dt (v3 (rd L i)) (v3 (rd L k)) (v3 (rd L m)) = Y at *
    generalize dt (v3 (rd L i)) (v3 (rd L j)) (v3 (rd L m)) = Z at *
    generalize -dt (v3 (rd L i)) (v3 (rd L j)) (v3 (rd L k)) = T at *
    rcases hs with ⟨x0, y0, z0, t0⟩ | ⟨x0, y0, z0, t0⟩
    · rw [ab_pos x0, ab_pos y0, ab_pos z0, ab_pos t0] at hd
      exact ⟨_, full4 (i := i) (j := j) (k := k) (m := m) hi hj hk hm x0 (b := Y) (c := Z) (d := T) (by omega) (by omega) (by omega) e1 e2 e3 hd⟩
    · have n : ∀ x : Int, x < 0 → ab x = -x := fun x hx => by unfold ab; omega
      rw [n X x0, n Y y0, n Z z0, n T t0] at hd
      refine ⟨_, full4 (i := i) (j := j) (k := k) (m := m) hi hj hk hm (a := -X) (by omega) (b := -Y) (c := -Z) (d := -T) (by omega) (by omega) (by omega) ?_ ?_ ?_ hd⟩ <;> grind
theorem opn_iff {L : List S4} (hL : ∀ p ∈ L, okp p = true) : opn L = false ↔ ∃ v, Full L v := ⟨opn_full hL, fun ⟨_, h⟩ => h.opn hL⟩
end Go.Proofs.Ytlkcpldohlemcaa.Q
