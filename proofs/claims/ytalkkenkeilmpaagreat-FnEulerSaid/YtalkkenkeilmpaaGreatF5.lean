/- FnNeeded: for whatever cell is drawn. -/
import Derived.Test.YtalkkenkeilmpaaGreatF4
namespace Go.Proofs.YtalkkenkeilmpaaGreat.Q
open Go Go.RowKit Go.Proofs Go.Proofs.YtalkkenkeilmpaaGreat.Ev Go.Proofs.YtalkkenkeilmpaaGreat.G
set_option linter.unusedSimpArgs false
set_option linter.unusedVariables false
open Rk (bddV opV_ok Bounded_ev)

theorem mn_neg {s : S4} : ∀ {L : List S4} {x : Int}, mn s x L < 0 ↔ x < 0 ∨ ∃ p ∈ L, sd p s < 0
  | [], x => by simp [mn]
  | p :: L, x => by
    rw [mn, mn_neg]
    constructor
    · rintro (h | ⟨q, hq, h⟩)
      · split at h
        · exact .inr ⟨p, List.mem_cons_self, h⟩
        · exact .inl h
      · exact .inr ⟨q, List.mem_cons_of_mem _ hq, h⟩
    · rintro (h | ⟨q, hq, h⟩)
      · left; split <;> omega
      · rcases List.mem_cons.1 hq with rfl | hq
        · left; split <;> omega
        · exact .inr ⟨q, hq, h⟩
theorem sgn_lt {x : Int} : sgn x < 0 ↔ x < 0 := by unfold sgn; split <;> (try split) <;> omega
theorem mn_cell {L : List S4} (hL : ∀ p ∈ L, okp p = true) {s : S4} (hs : spk s = true) : mn s 1 L < 0 ↔ ¬ ∀ p ∈ L, 0 ≤ sv p s := by
  rw [mn_neg]
  constructor
  · rintro (h | ⟨p, hp, h⟩)
    · omega
    · rw [sd_sv (hL p hp) hs, sgn_lt] at h
      intro hc; have := hc p hp; omega
  · intro h
    refine .inr (Classical.byContradiction fun hc => h fun p hp => ?_)
    refine Int.not_lt.1 fun hn => hc ⟨p, hp, ?_⟩
    rw [sd_sv (hL p hp) hs, sgn_lt]; exact hn

/-! ### the corners, by the program -/
theorem sv_mS {p q r t : S4} : mH p q r * sv t (mS p q r) = D4 p q r t := by
  obtain ⟨e1, e2, e3, e4⟩ := mS_mul (p := p) (q := q) (r := r)
  rw [← cramer, ← e1, ← e2, ← e3, ← e4]
  simp only [sv]; grind
theorem mS_on {p q r : S4} (h : D3 p q r ≠ 0) : sv p (mS p q r) = 0 ∧ sv q (mS p q r) = 0 ∧ sv r (mS p q r) = 0 := by
  have hm := mH_ne h
  have z : ∀ t, D4 p q r t = 0 → sv t (mS p q r) = 0 := fun t ht => by
    have := sv_mS (p := p) (q := q) (r := r) (t := t)
    rw [ht] at this
    exact (Int.mul_eq_zero.1 this).resolve_left hm
  exact ⟨z p (D4_self1 p q r), z q (D4_self2 p q r), z r (D4_self3 p q r)⟩
theorem spot_same {s m : S4} (hs : okSpot s = true) (hm : okSpot m = true) (ha : s.d * m.a = m.d * s.a) (hb : s.d * m.b = m.d * s.b) (hc : s.d * m.c = m.d * s.c) : m = s := by
  have e := gcd_same (okSpot_d hs) (okSpot_d hm) ha hb hc (Int.mul_comm _ _) (okSpot_iff.1 hm).2 (okSpot_iff.1 hs).2
  rw [e] at ha hb hc
  have hd := okSpot_d hm
  have c : ∀ {u v : Int}, m.d * u = m.d * v → u = v := fun h => Int.eq_of_mul_eq_mul_left (by omega) h
  exact S4_eq (c ha) (c hb) (c hc) (by omega)
theorem on_mS {p q r s : S4} (hp : okp p = true) (hq : okp q = true) (hr : okp r = true) (h : D3 p q r ≠ 0) (hs : okSpot s = true) (tp : sv p s = 0) (tq : sv q s = 0) (tr : sv r s = 0) : mS p q r = s := by
  have ok : okSpot (mS p q r) = true := by rw [← spk_ok]; exact mS_ok (okp_bd4 hp) (okp_bd4 hq) (okp_bd4 hr) h
  obtain ⟨e1, e2, e3, e4⟩ := mS_mul (p := p) (q := q) (r := r)
  have hm := mH_ne h
  have k1 : D3 p q r * s.a - mX p q r * s.d = (q.b * r.c - q.c * r.b) * sv p s + (r.b * p.c - r.c * p.b) * sv q s + (p.b * q.c - p.c * q.b) * sv r s := by simp only [D3, mX, dt, ip, cx, v3, sv]; grind
  have k2 : D3 p q r * s.b - mY p q r * s.d = (q.c * r.a - q.a * r.c) * sv p s + (r.c * p.a - r.a * p.c) * sv q s + (p.c * q.a - p.a * q.c) * sv r s := by simp only [D3, mY, dt, ip, cx, v3, sv]; grind
  have k3 : D3 p q r * s.c - mZ p q r * s.d = (q.a * r.b - q.b * r.a) * sv p s + (r.a * p.b - r.b * p.a) * sv q s + (p.a * q.b - p.b * q.a) * sv r s := by simp only [D3, mZ, dt, ip, cx, v3, sv]; grind
  rw [tp, tq, tr] at k1 k2 k3
  rw [← e4, ← e1] at k1; rw [← e4, ← e2] at k2; rw [← e4, ← e3] at k3
  generalize mS p q r = m at *
  generalize mH p q r = H at *
  have c : ∀ {u v : Int}, H * u = H * v → u = v := fun h => Int.eq_of_mul_eq_mul_left hm h
  exact spot_same hs ok (c (by grind)) (c (by grind)) (c (by grind))
theorem cor_iff {L : List S4} (hL : ∀ p ∈ L, okp p = true) {x : S4} : (∃ i j k : Nat, i < j ∧ j < k ∧ k < L.length ∧ pt3 L (rd L (i : Nat)) (rd L (j : Nat)) (rd L (k : Nat)) = some x) ↔ Cor L x := by
  constructor
  · rintro ⟨i, j, k, hij, hjk, hk, h⟩
    have m : ∀ {i : Nat}, i < L.length → rd L (i : Int) ∈ L := fun h => by rw [rd_in h]; exact List.getElem_mem _
    have mi := m (show i < L.length by omega); have mj := m (show j < L.length by omega); have mk := m hk
    have ok := pt3_ok (hL _ mi) (hL _ mj) (hL _ mk) h
    unfold pt3 at h
    split at h
    · cases h
    · rename_i hd
      split at h
      · rename_i hm
        cases h
        refine ⟨ok, ?_, _, mi, _, mj, _, mk, hd, mS_on hd⟩
        refine Classical.byContradiction fun hc => ?_
        have := (mn_cell hL (by rw [spk_ok]; exact ok)).2 hc
        omega
      · cases h
  · rintro ⟨ok, hs, p, hp, q, hq, r, hr, hd, tp, tq, tr⟩
    obtain ⟨i, hi, ei⟩ := List.getElem_of_mem hp
    obtain ⟨j, hj, ej⟩ := List.getElem_of_mem hq
    obtain ⟨k, hk, ek⟩ := List.getElem_of_mem hr
    have key : ∀ i j k : Nat, i < L.length → j < L.length → k < L.length → D3 (rd L (i : Nat)) (rd L (j : Nat)) (rd L (k : Nat)) ≠ 0 → sv (rd L (i : Nat)) x = 0 → sv (rd L (j : Nat)) x = 0 → sv (rd L (k : Nat)) x = 0 → pt3 L (rd L (i : Nat)) (rd L (j : Nat)) (rd L (k : Nat)) = some x := fun i j k hi hj hk hd ti tj tk => by
      have e := on_mS (rd_ok hL hi) (rd_ok hL hj) (rd_ok hL hk) hd ok ti tj tk
      unfold pt3
      rw [if_neg hd, e, if_pos]
      have := mt (mn_cell hL (s := x) (by rw [spk_ok]; exact ok)).1 (fun h => h hs)
      omega
    rw [← rd_in hi] at ei; rw [← rd_in hj] at ej; rw [← rd_in hk] at ek
    subst ei ej ek
    have ne1 : i ≠ j := fun e => hd (by subst e; simp only [D3, dt, ip, cx]; grind)
    have ne2 : j ≠ k := fun e => hd (by subst e; simp only [D3, dt, ip, cx]; grind)
    have ne3 : i ≠ k := fun e => hd (by subst e; simp only [D3, dt, ip, cx]; grind)
    have sw1 : ∀ a b c : S4, D3 a b c ≠ 0 → D3 b a c ≠ 0 := fun a b c h => by
      have : D3 b a c = -D3 a b c := by simp only [D3, dt, ip, cx]; grind
      omega
    have sw2 : ∀ a b c : S4, D3 a b c ≠ 0 → D3 a c b ≠ 0 := fun a b c h => by
      have : D3 a c b = -D3 a b c := by simp only [D3, dt, ip, cx]; grind
      omega
    rcases Nat.lt_or_gt_of_ne ne1 with h1 | h1 <;> rcases Nat.lt_or_gt_of_ne ne2 with h2 | h2 <;> rcases Nat.lt_or_gt_of_ne ne3 with h3 | h3
    · exact ⟨i, j, k, h1, h2, hk, key i j k hi hj hk hd tp tq tr⟩
    · omega
    · exact ⟨i, k, j, h3, h2, hj, key i k j hi hk hj (sw2 _ _ _ hd) tp tr tq⟩
    · exact ⟨k, i, j, h3, h1, hj, key k i j hk hi hj (sw1 _ _ _ (sw2 _ _ _ hd)) tr tp tq⟩
    · exact ⟨j, i, k, h1, h3, hk, key j i k hj hi hk (sw1 _ _ _ hd) tq tp tr⟩
    · exact ⟨j, k, i, h2, h3, hi, key j k i hj hk hi (sw2 _ _ _ (sw1 _ _ _ hd)) tq tr tp⟩
    · omega
    · exact ⟨k, j, i, h2, h1, hi, key k j i hk hj hi (sw1 _ _ _ (sw2 _ _ _ (sw1 _ _ _ hd))) tr tq tp⟩
theorem icorners_ev {L : List S4} (hL : ∀ p ∈ L, okp p = true) (hl : L.length ≤ 24) : ∃ V, OrdS V ∧ V.length ≤ 13824 ∧ (∀ x, x ∈ V ↔ Cor L x) ∧ Ev (fun k => impl_corners.f k L) V := by
  obtain ⟨T, a1, l1⟩ := corners_l3 hL hl L.length 0 (by omega) (by omega) [] (fun x hx => by cases hx) (by simp; omega)
  have hT : T.length ≤ 13824 := by have := a1.len; rw [List.length_nil] at this; omega
  have mT : ∀ x, x ∈ T ↔ Cor L x := fun x => by
    rw [a1.mem, ← cor_iff hL]
    constructor
    · rintro (h | ⟨i, _, h1, j, h2, k, h3, h4⟩)
      · cases h
      · exact ⟨k, j, i, h3, h2, h1, by rw [pt3_rev]; exact h4⟩
    · rintro ⟨i, j, k, h1, h2, h3, h4⟩
      exact .inr ⟨k, Nat.zero_le _, h3, j, h2, i, h1, by rw [pt3_rev]; exact h4⟩
  have o2 : OrdS (compV (srt cfSpot T)) := comp_ord cmpSpot_ok (fun x hx => a1.ok x (srt_mem.1 hx)) (srt_up cmpSpot_ok a1.ok)
  have cl : (compV (srt cfSpot T)).length ≤ T.length := by
    unfold compV Lib.compact Lib.compactUpTo
    rw [List.length_map]
    refine Nat.le_trans (List.length_filter_le _ _) ?_
    rw [List.length_range]; exact Nat.le_of_eq (List.length_mergeSort _)
  refine ⟨compV (srt cfSpot T), o2, by omega, fun x => by rw [comp_mem, srt_mem, mT], ?_⟩
  unfold impl_corners.f
  refine l1.ev.bind ?_
  have h1 : T.all okSpot = true := List.all_eq_true.2 a1.ok
  have h2 : (srt cfSpot T).length = T.length := List.length_mergeSort _
  simp only [slices_SortFunc61.f, slices_Compact64.f, slices_Clip63.f, sortV, compF, h1, lt47_ok (show T.length < 2199023255552 by omega), Bool.and_self, if_true, Option.bind_some, h2]
  exact .now fun _ => rfl
theorem iCorners_ev {L : List S4} (h : opV L = true) : ∃ V, OrdS V ∧ V.length ≤ 13824 ∧ (∀ x, x ∈ V ↔ Cor L x) ∧ Ev (fun k => impl_Corners.f k L) V := by
  obtain ⟨V, h1, h2, h3, h4⟩ := icorners_ev (opV_ok h).1 (opV_ok h).2
  refine ⟨V, h1, h2, h3, ?_⟩
  unfold impl_Corners.f
  refine (iOpen_ev (Nat.le_trans (opV_ok h).2 (by omega))).bind ?_
  rw [h]; simp only [Bool.not_true, Bool.false_eq_true, if_false]
  exact h4.bind (.now fun _ => rfl)
def inV (L : List S4) (s : S4) : Int := if spk s = true ∧ opV L = true then mn s 1 L else -1
theorem InCell_ev {L : List S4} (hl : L.length ≤ 100) (s : S4) : Ev (fun k => impl_InCell.f k L s) (inV L s) := by
  unfold impl_InCell.f inV
  refine (impl_SpotOk_ev s).bind ?_
  cases hs : spk s with
  | false => simp only [Bool.not_false, if_true, Bool.false_eq_true, false_and, if_false]; exact .now fun _ => rfl
  | true =>
    simp only [Bool.not_true, Bool.false_eq_true, if_false, true_and]
    refine (iOpen_ev (by omega)).bind ?_
    cases ho : opV L with
    | false => simp only [Bool.not_false, if_true, Bool.false_eq_true, if_false]; exact .now fun _ => rfl
    | true =>
      simp only [Bool.not_true, Bool.false_eq_true, if_false, if_true]
      exact (inCell_ev s hl).bind (.now fun _ => rfl)

/-! ### the law -/
theorem ndF_rg {L : List S4} : ∀ x ∈ ndV L, 0 ≤ x ∧ x < (L.length : Int) := fun x hx => by
  unfold ndV at hx
  split at hx
  · obtain ⟨m, _, h2, _, rfl⟩ := ndF_mem.1 hx; omega
  · cases hx
theorem ndV_len {L : List S4} : (ndV L).length ≤ L.length := by
  unfold ndV; split
  · exact ndF_len L _ _
  · exact Nat.zero_le _
theorem less_l9 {a : List Int} {L : List S4} {K : List Int} (hK : ∀ x ∈ K, 0 ≤ x ∧ x < (L.length : Int)) (hl : K.length ≤ 1000) : ∀ (d i : Nat) (o : List S4), K.length - i = d → i ≤ K.length → o.length ≤ i →
    Lv (fun k n => laws_FnNeeded.l9 k n a (i : Int) L K o) ((a, (), (), ()), (L, o ++ (K.drop i).map (fun x => rd L x), ())) := by
  intro d
  induction d with
  | zero =>
    intro i o hd hi ho
    refine Lv.step (g := fun k n => laws_FnNeeded.s9 k (laws_FnNeeded.l9 k n) a (i : Int) L K o) ?_ (fun _ _ => rfl)
    rw [List.drop_eq_nil_of_le (by omega)]
    simp only [laws_FnNeeded.s9, decide_eq_true_eq, if_neg (show ¬ (i : Int) < (K.length : Int) by omega), List.map_nil, List.append_nil]
    exact .now fun _ _ => rfl
  | succ d ih =>
    intro i o hd hi ho
    have hi' : i < K.length := by omega
    obtain ⟨k0, k1⟩ := hK _ (List.getElem_mem hi')
    have e : K.getD i default = K[i] := by simp [List.getD_eq_getElem?_getD, hi']
    have w : W ((i : Int) + 1) = ((i + 1 : Nat) : Int) := by rw [W_id (by omega) (by omega)]; omega
    refine Lv.step (g := fun k n => laws_FnNeeded.s9 k (laws_FnNeeded.l9 k n) a (i : Int) L K o) ?_ (fun _ _ => rfl)
    simp only [laws_FnNeeded.s9, decide_eq_true_eq, if_pos (show (i : Int) < (K.length : Int) by omega), if_pos (Int.natCast_nonneg _), Int.toNat_natCast, if_pos hi', e, if_pos k0, if_pos k1, if_pos (show K[i].toNat < L.length by omega), List.length_cons, List.length_nil, if_pos (lt47_ok (show o.length + (0 + 1) < 2199023255552 by omega)), w]
    have := ih (i + 1) (o ++ [rd L K[i]]) (by omega) (by omega) (by simp only [List.length_append, List.length_cons, List.length_nil]; omega)
    rw [← List.getElem_cons_drop hi', List.map_cons]
    rw [List.append_assoc, List.singleton_append] at this
    exact this
theorem less_ok {L : List S4} (h : opV L = true) : opV (lsV L) = true := by
  have hL := (opV_ok h).1
  have ho : opn L = true := by unfold opV at h; rw [Bool.and_eq_true] at h; exact h.2
  obtain ⟨v, hv⟩ := mid_of hL ho
  have hs := ls_less h
  have hM : ∀ p ∈ lsV L, okp p = true := fun p hp => hL p (hs.sub p hp)
  have hl : (lsV L).length ≤ 24 := by
    unfold lsV; rw [List.length_map]
    exact Nat.le_trans ndV_len (opV_ok h).2
  unfold opV
  rw [Bool.and_eq_true, Bool.and_eq_true, decide_eq_true_eq]
  exact ⟨⟨List.all_eq_true.2 hM, hl⟩, (opn_mid hM).2 ⟨v, hv.1, fun p hp => hv.2 p (hs.sub p hp)⟩⟩
theorem needed_tail {a : List Int} (h : a.length ≤ 1048576) (hb : ∀ x ∈ a, 0 ≤ x ∧ x ≤ 255) {L : List S4} (hL : opV L = true) :
    Ex (fun k => (laws_at.f k a 2).bind fun t6 => if 13 = 0 then none else ((laws_at.f k a 3).bind fun t7 => if 13 = 0 then none else ((laws_at.f k a 4).bind fun t8 => if 13 = 0 then none else ((laws_at.f k a 5).bind fun t9 => if 2 = 0 then none else ((spec_SpotOf.f k (W ((t6.tmod 13) - 6)) (W ((t7.tmod 13) - 6)) (W ((t8.tmod 13) - 6)) (W (1 + (t9.tmod 2)))).bind fun t10 => (impl_InCell.f k L t10.1).bind fun t11 => (impl_InCell.f k (lsV L) t10.1).bind fun t12 => if ((decide (t11 < 0)) == (decide (t12 < 0))) = true then ((impl_Bounded.f k L).bind fun t13 => (impl_Bounded.f k (lsV L)).bind fun t14 => if (t13 == t14) = true then ((impl_Bounded.f k L).bind fun t15 => if (!t15) = true then (some true) else ((impl_Corners.f k L).bind fun t16 => (impl_Corners.f k (lsV L)).bind fun t17 => some ((t16.length : Int) == (t17.length : Int)))) else (some false)) else (some false)))))) (fun r => r = true) := by
  have z1 : ¬ ((13 : Nat) = 0) := by decide
  have z2 : ¬ ((2 : Nat) = 0) := by decide
  have hok := (opV_ok hL).1
  have hlen := (opV_ok hL).2
  have hM := less_ok hL
  have hMok := (opV_ok hM).1
  have hMlen := (opV_ok hM).2
  have hs := ls_less hL
  obtain ⟨v, hv⟩ := mid_of hok (by unfold opV at hL; rw [Bool.and_eq_true] at hL; exact hL.2)
  simp only [if_neg z1, if_neg z2]
  refine Ex.bind (at_ex h hb 2 (by omega)) fun t1 h1 => ?_
  refine Ex.bind (at_ex h hb 3 (by omega)) fun t2 h2 => ?_
  refine Ex.bind (at_ex h hb 4 (by omega)) fun t3 h3 => ?_
  refine Ex.bind (at_ex h hb 5 (by omega)) fun t4 h4 => ?_
  refine Ex.bind (drawn_spot (by omega) (by omega) h1 h2 h3 h4) fun t5 _ => ?_
  refine Ex.bind ((InCell_ev (L := L) (by omega) t5.1).ex rfl) fun t6 h6 => ?_
  refine Ex.bind ((InCell_ev (L := lsV L) (by omega) t5.1).ex rfl) fun t7 h7 => ?_
  have e : (decide (t6 < 0)) = (decide (t7 < 0)) := by
    rw [← h6, ← h7]
    unfold inV
    rw [decide_eq_decide]
    by_cases ss : spk t5.1 = true
    · rw [if_pos ⟨ss, hL⟩, if_pos ⟨ss, hM⟩, mn_cell hok ss, mn_cell hMok ss]
      refine not_congr ⟨fun h p hp => h p (hs.sub p hp), fun h => Less.tell hok hv hs ?_ h⟩
      rw [spk_ok] at ss
      exact Int.le_of_lt (okSpot_d ss)
    · rw [if_neg (fun h => ss h.1), if_neg (fun h => ss h.1)]
  simp only [e, beq_self_eq_true, if_true]
  refine Ex.bind ((Bounded_ev (L := L) (by omega)).ex rfl) fun t8 h8 => ?_
  refine Ex.bind ((Bounded_ev (L := lsV L) (by omega)).ex rfl) fun t9 h9 => ?_
  have e2 : t8 = t9 := by rw [← h8, ← h9, hL, hM, Less.bdd hok hv hs]
  subst e2
  simp only [beq_self_eq_true, if_true]
  refine Ex.bind ((Bounded_ev (L := L) (by omega)).ex rfl) fun t10 h10 => ?_
  cases t10 with
  | false => simp only [Bool.not_false, if_true]; exact Ex.now rfl
  | true =>
    simp only [Bool.not_true, Bool.false_eq_true, if_false]
    obtain ⟨V, o1, _, m1, v1⟩ := iCorners_ev hL
    obtain ⟨U, o2, _, m2, v2⟩ := iCorners_ev hM
    have eV : V = U := ord_eq cmpSpot_ok o1 o2 fun x => by rw [m1, m2]; exact Less.cor hok hv hs
    refine Ex.bind (v1.ex (R := fun r => r = V) rfl) fun t11 h11 => ?_
    refine Ex.bind (v2.ex (R := fun r => r = U) rfl) fun t12 h12 => ?_
    subst h11 h12 eV
    exact Ex.now (by rw [beq_iff_eq])
theorem DrawCell_ex {a : List Int} (h : a.length ≤ 1099511627776) : Ex (fun k => spec_DrawCell.f k a) (fun L => opV L = true) := by
  unfold spec_DrawCell.f
  refine Ex.bind (l1New_ex h) fun t1 h1 => ?_
  refine Ex.bind (l6Cell_ex h1 (n := 6) (by omega)) fun t2 h2 => Ex.now ?_
  obtain ⟨⟨⟨ha, ho⟩, hl⟩, _⟩ := h2
  unfold opV
  rw [Bool.and_eq_true, Bool.and_eq_true, decide_eq_true_eq]
  exact ⟨⟨List.all_eq_true.2 ha, by omega⟩, ho⟩
theorem FnNeeded_pure {a : List Int} (ha : a.length ≤ 9223372036854775807 ∧ ∀ x ∈ a, 0 ≤ x ∧ x ≤ 255) : ∃ k, laws_FnNeeded.f k a = some true := by
  have key : Ex (fun k => laws_FnNeeded.f k a) (fun r => r = true) := by
    unfold laws_FnNeeded.f
    refine Ex.bind ((big_ev a).ex rfl) fun t1 h1 => ?_
    subst h1
    simp only [decide_eq_true_eq]
    by_cases hb : (a.length : Int) > 1048576
    · simp only [if_pos hb]; exact Ex.now rfl
    simp only [if_neg hb]
    refine Ex.bind (DrawCell_ex (a := a) (by omega)) fun L hL => ?_
    have hlen := (opV_ok hL).2
    refine Ex.bind ((iNeeded_ev (L := L) (by omega)).ex (R := fun r => r = ndV L) rfl) fun t3 h3 => ?_
    refine Ex.bind ((sNeeded_ev (L := L) (by omega)).ex (R := fun r => r = ndV L) rfl) fun t4 h4 => ?_
    subst h3 h4
    simp only [bne_self_eq_false, Bool.false_eq_true, if_false]
    have l9 := less_l9 (a := a) (L := L) (K := ndV L) ndF_rg (Nat.le_trans ndV_len (by omega)) (ndV L).length 0 [] rfl (Nat.zero_le _) (by simp)
    rw [List.drop_zero, List.nil_append] at l9
    refine Ex.bind (l9.ev.ex (R := fun r => r = ((a, (), (), ()), (L, lsV L, ()))) rfl) fun x5 h5 => ?_
    subst h5
    exact needed_tail (by omega) ha.2 hL
  obtain ⟨v, ⟨K, h⟩, rfl⟩ := key
  exact ⟨K, h K (Nat.le_refl _)⟩
end Go.Proofs.YtalkkenkeilmpaaGreat.Q
