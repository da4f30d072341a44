/- A cell and its needed planes: a point in the midst, corners, the law FnNeeded. -/
import Derived.Test.YtalkkenkeilmpaaGreatF3
import Derived.Test.YtalkkenkeilmpaaGreatZ6a
namespace Go.Proofs.YtalkkenkeilmpaaGreat.Q
open Go Go.RowKit Go.Proofs Go.Proofs.YtalkkenkeilmpaaGreat.Ev Go.Proofs.YtalkkenkeilmpaaGreat.G
set_option linter.unusedSimpArgs false
set_option linter.unusedVariables false
open Rk (bddV opV_ok)

/-! ### a point in the midst -/
def to4 (p : S4) (i : Nat) : Int := if i = 0 then p.a else if i = 1 then p.b else if i = 2 then p.c else if i = 3 then p.d else 0
theorem dn_to4 (p : S4) (s : Nat → Int) : dn 4 (to4 p) s = sv p ⟨s 0, s 1, s 2, s 3⟩ := by
  simp [dn, to4, sv]
def e4 : S4 := ⟨0, 0, 0, 1⟩
theorem pos_wts {L : List S4} {z : Nat → Int} (h : Pos ((e4 :: L).map to4) z) : ∃ (w : Int) (u : Nat → Int), 0 ≤ w ∧ (∀ i, i < L.length → 0 ≤ u i) ∧ (0 < w ∨ ∃ i, i < L.length ∧ u i ≠ 0) ∧
    z 0 = ls (wA L u) (List.range L.length) ∧ z 1 = ls (wB L u) (List.range L.length) ∧ z 2 = ls (wC L u) (List.range L.length) ∧ z 3 = ls (wD L u) (List.range L.length) + w := by
  induction h with
  | one h =>
    obtain ⟨p, hp, rfl⟩ := List.mem_map.1 h
    rcases List.mem_cons.1 hp with rfl | hp
    · refine ⟨1, fun _ => 0, by omega, fun _ _ => Int.le_refl 0, .inl (by omega), ?_, ?_, ?_, ?_⟩
      · rw [ls_zero fun i _ => by simp [wA]]; rfl
      · rw [ls_zero fun i _ => by simp [wB]]; rfl
      · rw [ls_zero fun i _ => by simp [wC]]; rfl
      · rw [ls_zero fun i _ => by simp [wD]]; rfl
    · obtain ⟨j, hj, rfl⟩ := List.getElem_of_mem hp
      refine ⟨0, sg1 j 1, by omega, fun i _ => by unfold sg1; split <;> omega, .inr ⟨j, hj, by unfold sg1; rw [if_pos rfl]; omega⟩, ?_, ?_, ?_, ?_⟩
      · have := sg1_sum hj 1 (fun i => (rd L (i : Int)).a)
        unfold wA; rw [this, rd_in hj]; simp [to4]
      · have := sg1_sum hj 1 (fun i => (rd L (i : Int)).b)
        unfold wB; rw [this, rd_in hj]; simp [to4]
      · have := sg1_sum hj 1 (fun i => (rd L (i : Int)).c)
        unfold wC; rw [this, rd_in hj]; simp [to4]
      · have := sg1_sum hj 1 (fun i => (rd L (i : Int)).d)
        unfold wD; rw [this, rd_in hj]; simp [to4]
  | @two a b x y _ _ hx hy ih1 ih2 =>
    obtain ⟨w, u, w0, u0, ne, a0, a1, a2, a3⟩ := ih1
    obtain ⟨w', u', w0', u0', ne', b0, b1, b2, b3⟩ := ih2
    have lin : ∀ f : S4 → Int, ls (fun i => (x * u i + y * u' i) * f (rd L (i : Int))) (List.range L.length) = x * ls (fun i => u i * f (rd L (i : Int))) (List.range L.length) + y * ls (fun i => u' i * f (rd L (i : Int))) (List.range L.length) := fun f => by
      rw [← ls_lin]; exact ls_congr fun i _ => by grind
    have p1 := Int.mul_nonneg (Int.le_of_lt hx) w0
    have p2 := Int.mul_nonneg (Int.le_of_lt hy) w0'
    refine ⟨x * w + y * w', fun i => x * u i + y * u' i, by omega, fun i hi => ?_, ?_, ?_, ?_, ?_, ?_⟩
    · show 0 ≤ x * u i + y * u' i
      have := Int.mul_nonneg (Int.le_of_lt hx) (u0 i hi); have := Int.mul_nonneg (Int.le_of_lt hy) (u0' i hi); omega
    · rcases ne with h | ⟨i, hi, h⟩
      · left; have := Int.mul_pos hx h; omega
      · right
        refine ⟨i, hi, ?_⟩
        show x * u i + y * u' i ≠ 0
        have := Int.mul_pos hx (show 0 < u i by have := u0 i hi; omega); have := Int.mul_nonneg (Int.le_of_lt hy) (u0' i hi); omega
    · have := lin (fun p => p.a); unfold wA at *; rw [this]; simp only [a0, b0]
    · have := lin (fun p => p.b); unfold wB at *; rw [this]; simp only [a1, b1]
    · have := lin (fun p => p.c); unfold wC at *; rw [this]; simp only [a2, b2]
    · have := lin (fun p => p.d); unfold wD at *; rw [this]; simp only [a3, b3]; grind
theorem mid_of {L : List S4} (hL : ∀ p ∈ L, okp p = true) (h : opn L = true) : ∃ v, Mid L v := by
  rcases gordan 4 ((e4 :: L).map to4) with ⟨s, hs⟩ | ⟨z, hz, z0⟩
  · refine ⟨⟨s 0, s 1, s 2, s 3⟩, ?_, fun p hp => ?_⟩
    · have := hs _ (List.mem_map_of_mem (f := to4) (List.mem_cons_self (a := e4) (l := L)))
      rw [dn_to4] at this
      simp [sv, e4] at this
      exact this
    · have := hs _ (List.mem_map_of_mem (f := to4) (List.mem_cons_of_mem e4 hp))
      rwa [dn_to4] at this
  · exfalso
    obtain ⟨w, u, w0, u0, ne, a0, a1, a2, a3⟩ := pos_wts hz
    rw [z0 0 (by omega)] at a0; rw [z0 1 (by omega)] at a1; rw [z0 2 (by omega)] at a2; rw [z0 3 (by omega)] at a3
    have f : Full L u := by
      refine ⟨u0, ?_, ⟨a0.symm, a1.symm, a2.symm⟩, by omega⟩
      rcases ne with hw | ne
      · refine Classical.byContradiction fun hc => ?_
        have : ls (wD L u) (List.range L.length) = 0 := ls_zero fun i hi => by
          rw [List.mem_range] at hi
          have : u i = 0 := Classical.byContradiction fun h => hc ⟨i, hi, h⟩
          simp [wD, this]
        omega
      · exact ne
    rw [f.opn hL] at h; cases h
theorem opn_mid {L : List S4} (hL : ∀ p ∈ L, okp p = true) : opn L = true ↔ ∃ v, Mid L v := ⟨mid_of hL, fun ⟨v, h1, h2⟩ => point_opn hL h1 h2⟩

/-! ### the planes that are needed -/
theorem sv_flp (p s : S4) : sv (flp p) s = -sv p s := by simp only [sv, flp]; grind
theorem nb_iff {L : List S4} (hL : ∀ p ∈ L, okp p = true) (h : opn L = true) {i : Nat} (hi : i < L.length) : nb L i = true ↔ fstB L i = true ∧ Nd L (rd L (i : Int)) := by
  unfold nb
  rw [Bool.and_eq_true, Bool.not_eq_true']
  refine and_congr Iff.rfl ?_
  generalize hp : rd L (i : Int) = p
  have op : okp p = true := hp ▸ rd_ok hL hi
  have oo := oth_ok hL p
  have of := flp_ok op
  have oa : ∀ q ∈ oth L p ++ [flp p], okp q = true := all_snoc oo of
  have oopn : opn (oth L p) = true := by
    obtain ⟨v, hv⟩ := mid_of hL h
    exact (opn_mid oo).2 ⟨v, hv.1, fun q hq => hv.2 q (List.mem_filter.1 hq).1⟩
  have e : wl (oth L p) (flp p) = false ↔ opn (oth L p ++ [flp p]) = true := by
    constructor
    · exact opn_snoc oopn
    · intro h1
      rw [← Bool.not_eq_true]
      intro h2
      have hlen : (oth L p).length < (oth L p ++ [flp p]).length := by simp
      have := opn_of (L := oth L p ++ [flp p]) (j := (oth L p).length) hlen (by
        rw [List.take_left', rd_snoc_r]
        · exact h2
        · rfl)
      rw [this] at h1; cases h1
  rw [e, opn_mid oa]
  constructor
  · rintro ⟨v, h1, h2⟩
    refine ⟨v, h1, ?_, fun q hq ne => h2 q (List.mem_append_left _ (by unfold oth; rw [List.mem_filter, decide_eq_true_eq]; exact ⟨hq, ne⟩))⟩
    have := h2 (flp p) (List.mem_append_right _ (List.mem_singleton.2 rfl))
    rw [sv_flp] at this; omega
  · rintro ⟨v, h1, h2, h3⟩
    refine ⟨v, h1, fun q hq => ?_⟩
    rcases List.mem_append.1 hq with hq | hq
    · unfold oth at hq; rw [List.mem_filter, decide_eq_true_eq] at hq; exact h3 q hq.1 hq.2
    · rw [List.mem_singleton] at hq; subst hq; rw [sv_flp]; omega
theorem ndF_mem {L : List S4} {x : Int} : ∀ {d i : Nat}, x ∈ ndF L d i ↔ ∃ m : Nat, i ≤ m ∧ m < i + d ∧ nb L m = true ∧ x = (m : Int)
  | 0, i => by simp only [ndF, List.not_mem_nil, false_iff]; rintro ⟨m, h1, h2, _⟩; omega
  | d + 1, i => by
    rw [ndF, List.mem_append, ndF_mem]
    constructor
    · rintro (h | ⟨m, h1, h2, h3, h4⟩)
      · split at h
        · rename_i c
          exact ⟨i, by omega, by omega, c, List.mem_singleton.1 h⟩
        · cases h
      · exact ⟨m, by omega, by omega, h3, h4⟩
    · rintro ⟨m, h1, h2, h3, h4⟩
      by_cases e : m = i
      · subst e; left; rw [if_pos h3]; exact List.mem_singleton.2 h4
      · exact .inr ⟨m, by omega, by omega, h3, h4⟩
/-- the list of the needed planes -/
def lsV (L : List S4) : List S4 := (ndV L).map fun i => rd L i
theorem exists_fst {L : List S4} {p : S4} (h : p ∈ L) : ∃ i : Nat, i < L.length ∧ fstB L i = true ∧ rd L (i : Int) = p := by
  obtain ⟨j, hj, e⟩ := List.getElem_of_mem h
  have : ∀ n : Nat, n < L.length → rd L (n : Int) = p → ∃ i : Nat, i < L.length ∧ fstB L i = true ∧ rd L (i : Int) = p := by
    intro n
    induction n using Nat.strongRecOn with
    | ind n ih =>
      intro hn e
      by_cases c : ∃ m : Nat, m < n ∧ rd L (m : Int) = p
      · obtain ⟨m, h1, h2⟩ := c
        exact ih m h1 (by omega) h2
      · exact ⟨n, hn, fstB_iff.2 fun m hm h => c ⟨m, hm, h.trans e⟩, e⟩
  exact this j hj (by rw [rd_in hj]; exact e)
structure Less (L M : List S4) : Prop where
  sub : ∀ p ∈ M, p ∈ L
  nd : ∀ p ∈ L, Nd L p → p ∈ M
theorem ls_less {L : List S4} (h : opV L = true) : Less L (lsV L) := by
  have hL := (opV_ok h).1
  have ho : opn L = true := by unfold opV at h; rw [Bool.and_eq_true] at h; exact h.2
  refine ⟨fun p hp => ?_, fun p hp hn => ?_⟩
  · obtain ⟨x, hx, rfl⟩ := List.mem_map.1 hp
    unfold ndV at hx; rw [if_pos h] at hx
    obtain ⟨m, _, h2, _, rfl⟩ := ndF_mem.1 hx
    rw [rd_in (by omega)]; exact List.getElem_mem _
  · obtain ⟨i, hi, hf, e⟩ := exists_fst hp
    refine List.mem_map.2 ⟨(i : Int), ?_, e⟩
    unfold ndV; rw [if_pos h]
    exact ndF_mem.2 ⟨i, by omega, by omega, (nb_iff hL ho hi).2 ⟨hf, by rw [e]; exact hn⟩, rfl⟩
section
variable {L M : List S4} (hL : ∀ p ∈ L, okp p = true) {v : S4} (hv : Mid L v) (hM : Less L M)
include hL hv hM
/-- the same points -/
theorem Less.tell {x : S4} (x0 : 0 ≤ x.d) (h : ∀ p ∈ M, 0 ≤ sv p x) : ∀ p ∈ L, 0 ≤ sv p x := nd_tell hL hv x0 fun p hp hn => h p (hM.nd p hp hn)
theorem Less.bdd : bddV L = bddV M := by
  have hM' : ∀ p ∈ M, okp p = true := fun p hp => hL p (hM.sub p hp)
  rw [Bool.eq_iff_iff, bdd_iff hL, bdd_iff hM']
  have e : ∀ (p : S4) (v : S3), ip (v3 p) v = sv p ⟨v.x, v.y, v.z, 0⟩ := fun p v => by simp [ip, v3, sv]
  constructor
  · intro h v hv'
    refine h v fun p hp => ?_
    rw [e]
    refine Less.tell hL hv hM (by show (0 : Int) ≤ 0; omega) (fun q hq => ?_) p hp
    rw [← e]; exact hv' q hq
  · intro h v hv'
    exact h v fun p hp => hv' p (hM.sub p hp)
omit hL hv hM in
/-- a corner -/
def Cor (L : List S4) (s : S4) : Prop := okSpot s = true ∧ (∀ t ∈ L, 0 ≤ sv t s) ∧ ∃ p ∈ L, ∃ q ∈ L, ∃ r ∈ L, D3 p q r ≠ 0 ∧ sv p s = 0 ∧ sv q s = 0 ∧ sv r s = 0
omit hL hv hM in
theorem okSpot_d {s : S4} (h : okSpot s = true) : 0 < s.d := by rw [okSpot_iff] at h; omega
theorem Less.cor {s : S4} : Cor L s ↔ Cor M s := by
  constructor
  · rintro ⟨ok, hs, p, hp, q, hq, r, hr, hd, tp, tq, tr⟩
    refine ⟨ok, fun t ht => hs t (hM.sub t ht), Classical.byContradiction fun hc => ?_⟩
    -- else some way on all of M's planes at s
    obtain ⟨u, hu, h0⟩ := ker3 (T := (M.filter fun t => decide (sv t s = 0)).map v3) (by
      intro a ha b hb c hcc
      obtain ⟨A, hA, rfl⟩ := List.mem_map.1 ha
      obtain ⟨B, hB, rfl⟩ := List.mem_map.1 hb
      obtain ⟨C, hC, rfl⟩ := List.mem_map.1 hcc
      rw [List.mem_filter, decide_eq_true_eq] at hA hB hC
      exact Classical.byContradiction fun h => hc ⟨A, hA.1, B, hB.1, C, hC.1, h, hA.2, hB.2, hC.2⟩)
    have e : ∀ (p : S4) (v : S3), sv p ⟨v.x, v.y, v.z, 0⟩ = ip (v3 p) v := fun p v => by simp [ip, v3, sv]
    have go : ∀ u : S3, (∀ t ∈ M, sv t s = 0 → ip (v3 t) u = 0) → ∀ t ∈ L, sv t s = 0 → 0 ≤ ip (v3 t) u := fun u h0 t ht ts => by
      obtain ⟨N, N0, N1⟩ := big_of (fun t => sv t s) (fun t => sv t ⟨u.x, u.y, u.z, 0⟩) (M.filter fun t => decide (sv t s ≠ 0)) (fun t ht => by
        rw [List.mem_filter, decide_eq_true_eq] at ht
        have := hs t (hM.sub t ht.1); omega)
      have := Less.tell hL hv hM (x := ad N s 1 ⟨u.x, u.y, u.z, 0⟩) (by
        have := Int.mul_pos N0 (okSpot_d ok)
        simp only [ad]; omega) (fun t ht => by
        rw [sv_ad]
        by_cases c : sv t s = 0
        · rw [c, e, h0 t ht c]; omega
        · have := N1 t (by rw [List.mem_filter, decide_eq_true_eq]; exact ⟨ht, c⟩)
          omega) t ht
      rw [sv_ad, ts, e] at this; omega
    have h1 : ∀ t ∈ M, sv t s = 0 → ip (v3 t) u = 0 := fun t ht ts => h0 _ (List.mem_map_of_mem (f := v3) (by rw [List.mem_filter, decide_eq_true_eq]; exact ⟨ht, ts⟩))
    have z : ∀ t ∈ L, sv t s = 0 → ip (v3 t) u = 0 := fun t ht ts => by
      have a := go u h1 t ht ts
      have b := go (Rk.ng u) (fun t ht ts => by rw [Rk.ip_ng, h1 t ht ts]; omega) t ht ts
      rw [Rk.ip_ng] at b; omega
    exact hu (ip_zero3 hd (z p hp tp) (z q hq tq) (z r hr tr))
  · rintro ⟨ok, hs, p, hp, q, hq, r, hr, h⟩
    exact ⟨ok, Less.tell hL hv hM (Int.le_of_lt (okSpot_d ok)) hs, p, hM.sub p hp, q, hM.sub q hq, r, hM.sub r hr, h⟩
end
end Go.Proofs.YtalkkenkeilmpaaGreat.Q
