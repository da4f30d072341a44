/- FnEuler: for whatever cell is drawn. -/
import Derived.Test.YtalkkenkeilmpaaGreatU4
namespace Go.Proofs.YtalkkenkeilmpaaGreat.Q
open Go Go.RowKit Go.Proofs Go.Proofs.YtalkkenkeilmpaaGreat.Ev Go.Proofs.YtalkkenkeilmpaaGreat.G
set_option linter.unusedSimpArgs false
set_option linter.unusedVariables false
open Rk (bddV opV_ok Bounded_ev sBounded_ev edgeV onL onF onL_ok rkV rkV_is RankIs edI edJ)

theorem ndF_nodup {L : List S4} : ∀ (d i : Nat), i + d ≤ L.length → ((ndF L d i).map fun x => rd L x).Nodup
  | 0, _, _ => List.nodup_nil
  | d + 1, i, hd => by
    have ih := ndF_nodup (L := L) d (i + 1) (by omega)
    rw [ndF]
    split
    · rw [List.singleton_append, List.map_cons, List.nodup_cons]
      refine ⟨fun hm => ?_, ih⟩
      obtain ⟨x, hx, e⟩ := List.mem_map.1 hm
      obtain ⟨m, h1, h2, h3, rfl⟩ := ndF_mem.1 hx
      unfold nb at h3
      rw [Bool.and_eq_true] at h3
      exact fstB_iff.1 h3.1 i (by omega) e.symm
    · rw [List.nil_append]; exact ih
theorem cell_of {L V : List S4} (h : opV L = true) (hb : bddV L = true) (oV : OrdS V) (mV : ∀ x, x ∈ V ↔ Cor L x) : ∃ f, Cell (lsV L) V f := by
  have hL := (opV_ok h).1
  have ho : opn L = true := by unfold opV at h; rw [Bool.and_eq_true] at h; exact h.2
  obtain ⟨v, hv⟩ := mid_of hL ho
  have hs := ls_less h
  have hM : ∀ p ∈ lsV L, okp p = true := fun p hp => hL p (hs.sub p hp)
  obtain ⟨f, hf⟩ := gen_ex (((lsV L).flatMap fun p => (lsV L).map fun q => cx (v3 p) (v3 q)).filter fun w => decide (w ≠ z3)) (fun w hw => by
    rw [List.mem_filter, decide_eq_true_eq] at hw; exact hw.2)
  refine ⟨f, ?_, ?_, hM, ⟨v, hv.1, fun p hp => hv.2 p (hs.sub p hp)⟩, fun p hp => ?_, ?_, fun x => by rw [mV]; exact Less.cor hL hv hs, fun p hp q hq ne => ?_⟩
  · unfold lsV ndV; rw [if_pos h]; exact ndF_nodup _ _ (by omega)
  · refine oV.up.imp_of_mem fun {a b} ha hb hlt e => ?_
    subst e
    exact cmpSpot_ok.irr a (oV.ok a ha) hlt
  · have : Nd L p := by
      obtain ⟨x, hx, rfl⟩ := List.mem_map.1 hp
      unfold ndV at hx; rw [if_pos h] at hx
      obtain ⟨m, _, h2, h3, rfl⟩ := ndF_mem.1 hx
      exact ((nb_iff hL ho (by omega)).1 h3).2
    obtain ⟨y, y0, y1, y2⟩ := this
    exact ⟨y, y0, y1, fun q hq ne => y2 q (hs.sub q hq) ne⟩
  · rw [Less.bdd hL hv hs] at hb
    exact (bdd_iff hM).1 hb
  · refine hf _ ?_
    rw [List.mem_filter, decide_eq_true_eq]
    exact ⟨List.mem_flatMap.2 ⟨p, hp, List.mem_map.2 ⟨q, hq, rfl⟩⟩, ne⟩
/-! ### the program's edges -/
theorem onF_iff {p s t : S4} (hp : okp p = true) (hs : okSpot s = true) (ht : okSpot t = true) : onF s t p = true ↔ sv p s = 0 ∧ sv p t = 0 := by
  unfold onF
  rw [Bool.and_eq_true, decide_eq_true_eq, decide_eq_true_eq, sd_sv hp (by rw [spk_ok]; exact hs), sd_sv hp (by rw [spk_ok]; exact ht), sgn_nul, sgn_nul]
theorem edge_sym (L : List S4) (a b : S4) : edgeV L a b = edgeV L b a := by
  unfold edgeV
  have : onL a b L = onL b a L := by
    unfold onL
    refine List.filter_congr fun p _ => ?_
    unfold onF; exact Bool.and_comm _ _
  rw [this]
theorem edge_two {L : List S4} (hL : ∀ p ∈ L, okp p = true) {s t : S4} (hs : okSpot s = true) (ht : okSpot t = true) : edgeV L s t = true ↔ ∃ p ∈ L, ∃ q ∈ L, cx (v3 p) (v3 q) ≠ z3 ∧ (sv p s = 0 ∧ sv p t = 0) ∧ sv q s = 0 ∧ sv q t = 0 := by
  have hon := onL_ok hL s t
  have hr := rkV_is hon
  have mem : ∀ p, p ∈ onL s t L ↔ p ∈ L ∧ sv p s = 0 ∧ sv p t = 0 := fun p => by
    unfold onL
    rw [List.mem_filter]
    exact ⟨fun ⟨a, b⟩ => ⟨a, (onF_iff (hL p a) hs ht).1 b⟩, fun ⟨a, b⟩ => ⟨a, (onF_iff (hL p a) hs ht).2 b⟩⟩
  have back : (∃ p ∈ (onL s t L).map v3, ∃ q ∈ (onL s t L).map v3, cx p q ≠ z3) → ∃ p ∈ L, ∃ q ∈ L, cx (v3 p) (v3 q) ≠ z3 ∧ (sv p s = 0 ∧ sv p t = 0) ∧ sv q s = 0 ∧ sv q t = 0 := by
    rintro ⟨p, hp, q, hq, hc⟩
    obtain ⟨P, hP, rfl⟩ := List.mem_map.1 hp
    obtain ⟨Q, hQ, rfl⟩ := List.mem_map.1 hq
    exact ⟨P, ((mem P).1 hP).1, Q, ((mem Q).1 hQ).1, hc, ((mem P).1 hP).2, ((mem Q).1 hQ).2⟩
  unfold edgeV
  rw [decide_eq_true_eq]
  constructor
  · intro h2
    rcases hr with ⟨e, p, hp, q, hq, r, hr, hd⟩ | ⟨e, _, hc⟩ | ⟨e, _⟩ | ⟨e, _⟩
    · exact back ⟨p, hp, q, hq, fun hz => hd (Rk.dt_of_cx hz r)⟩
    · exact back hc
    all_goals omega
  · rintro ⟨p, hp, q, hq, hc, hps, hqs⟩
    have mp := List.mem_map_of_mem (f := v3) ((mem p).2 ⟨hp, hps⟩)
    have mq := List.mem_map_of_mem (f := v3) ((mem q).2 ⟨hq, hqs⟩)
    rcases hr with ⟨e, _⟩ | ⟨e, _⟩ | ⟨e, h1, _⟩ | ⟨e, h1⟩
    · omega
    · omega
    · exact absurd (h1 _ mp _ mq) hc
    · exact absurd (h1 _ mp) (Rk.v3_nz (hL p hp))
/-- edges by all planes are edges by the needed ones. -/
theorem edge_ed {L V : List S4} {f : S3} (h : opV L = true) (hc : Cell (lsV L) V f) {v w : S4} (hv : v ∈ V) (hw : w ∈ V) (ne : w ≠ v) : edgeV L v w = true ↔ Ed (lsV L) v w := by
  have hL := (opV_ok h).1
  have ho : opn L = true := by unfold opV at h; rw [Bool.and_eq_true] at h; exact h.2
  obtain ⟨m, hm⟩ := mid_of hL ho
  have hs := ls_less h
  rw [edge_two hL (hc.vok hv) (hc.vok hw)]
  constructor
  · rintro ⟨p, hp, q, hq, hpq, ⟨pv, pw⟩, qv, qw⟩
    refine Classical.byContradiction fun hno => ?_
    have dz := hc.dirN hv hw ne
    have zd : ∀ t : S4, sv t v = 0 → sv t w = 0 → ip (v3 t) (dir v w) = 0 := fun t a b => by rw [ip_dir, a, b]; omega
    -- another way on all needed planes of both
    obtain ⟨u, hu, u0⟩ : ∃ u : S3, cx u (dir v w) ≠ z3 ∧ ∀ t ∈ lsV L, sv t v = 0 → sv t w = 0 → ip (v3 t) u = 0 := by
      by_cases c : ∃ a ∈ lsV L, sv a v = 0 ∧ sv a w = 0
      · obtain ⟨a, ha, av, aw⟩ := c
        refine ⟨cx (v3 a) (dir v w), ?_, fun t ht tv tw => ?_⟩
        · have k : ∀ P X : S3, ip P X = 0 → cx (cx P X) X = ⟨-(ip X X * P.x), -(ip X X * P.y), -(ip X X * P.z)⟩ := fun P X h0 => by
            rw [S3_ext]; simp only [ip, cx] at *; refine ⟨?_, ?_, ?_⟩ <;> grind
          rw [k _ _ (zd a av aw)]
          intro e
          rw [S3_ext] at e
          simp only [z3] at e
          have pos := sq_pos dz
          have nn : ∀ {x : Int}, -(ip (dir v w) (dir v w) * x) = 0 → x = 0 := fun h => (Int.mul_eq_zero.1 (by omega : ip (dir v w) (dir v w) * _ = 0)).resolve_left (by omega)
          exact Rk.v3_nz (hL a (hs.sub a ha)) (S3_ext.2 ⟨nn e.1, nn e.2.1, nn e.2.2⟩)
        · have : t = a := Classical.byContradiction fun hta => hno ⟨t, ht, a, ha, hta, tv, av, tw, aw⟩
          subst this
          rw [dt_ip, Rk.dt_self_o]
      · obtain ⟨u, hu⟩ : ∃ u : S3, cx u (dir v w) ≠ z3 := by
          generalize dir v w = x at dz
          by_cases e : x.x = 0 ∧ x.y = 0
          · refine ⟨⟨1, 0, 0⟩, fun h => dz ?_⟩
            rw [cx_zero] at h; rw [S3_ext]; simp only [z3] at *; omega
          · refine ⟨⟨0, 0, 1⟩, fun h => ?_⟩
            rw [cx_zero] at h; simp only at h; omega
        exact ⟨u, hu, fun t ht tv tw => absurd ⟨t, ht, tv, tw⟩ c⟩
    have e0 : ∀ (t : S4) (u : S3), sv t ⟨u.x, u.y, u.z, 0⟩ = ip (v3 t) u := fun p v => by simp [ip, v3, sv]
    have nnv := hc.vin hv; have nnw := hc.vin hw
    have vd := hc.vd hv; have wd := hc.vd hw
    have go : ∀ u : S3, (∀ t ∈ lsV L, sv t v = 0 → sv t w = 0 → ip (v3 t) u = 0) → ∀ t ∈ L, sv t v = 0 → sv t w = 0 → 0 ≤ ip (v3 t) u := fun u u0 t ht tv tw => by
      obtain ⟨N, N0, N1⟩ := big_of (fun t => sv t (ad 1 v 1 w)) (fun t => sv t ⟨u.x, u.y, u.z, 0⟩) ((lsV L).filter fun t => decide (¬ (sv t v = 0 ∧ sv t w = 0))) (fun t ht => by
        rw [List.mem_filter, decide_eq_true_eq] at ht
        have := nnv t ht.1; have := nnw t ht.1
        rw [sv_ad]; omega)
      have := Less.tell hL hm hs (x := ad N (ad 1 v 1 w) 1 ⟨u.x, u.y, u.z, 0⟩) (by
        have := Int.mul_pos N0 (show 0 < 1 * v.d + 1 * w.d by omega)
        simp only [ad]; omega) (fun t ht => by
        rw [sv_ad]
        by_cases c : sv t v = 0 ∧ sv t w = 0
        · rw [sv_ad, c.1, c.2, e0, u0 t ht c.1 c.2]; omega
        · have := N1 t (by rw [List.mem_filter, decide_eq_true_eq]; exact ⟨ht, c⟩)
          omega) t ht
      rw [sv_ad, sv_ad, tv, tw, e0] at this; omega
    have z : ∀ t ∈ L, sv t v = 0 → sv t w = 0 → ip (v3 t) u = 0 := fun t ht tv tw => by
      have a := go u u0 t ht tv tw
      have b := go (Rk.ng u) (fun t ht tv tw => by rw [Rk.ip_ng, u0 t ht tv tw]; omega) t ht tv tw
      rw [Rk.ip_ng] at b; omega
    have par : ∀ P Q X : S3, ip P X = 0 → ip Q X = 0 → cx (cx P Q) X = z3 := fun P Q X h1 h2 => by
      rw [S3_ext]; simp only [ip, cx, z3] at *; refine ⟨?_, ?_, ?_⟩ <;> grind
    exact hu (Rk.cx_trans hpq (par _ _ _ (z p hp pv pw) (z q hq qv qw)) (par _ _ _ (zd p pv pw) (zd q qv qw)))
  · rintro ⟨p, hp, q, hq, pq, pv, qv, pw, qw⟩
    refine ⟨p, hs.sub p hp, q, hs.sub q hq, fun e => ?_, ⟨pv, pw⟩, qv, qw⟩
    obtain ⟨b, hb, bp, bq⟩ := (hc.loc hv).third p q
    exact (hc.loc hv).dt3 (mem_Tv.2 ⟨hp, pv⟩) (mem_Tv.2 ⟨hq, qv⟩) hb pq (Ne.symm bp) (Ne.symm bq) (Rk.dt_of_cx e _)
/-! ### the rows of edges -/
theorem edJ_len' {L V : List S4} {i : Nat} : ∀ (d j : Nat), V.length - j = d → j ≤ V.length → (edJ L V i d j).length = (V.drop j).countP (fun w => edgeV L (rd V (i : Int)) w)
  | 0, j, hd, hj => by rw [List.drop_eq_nil_of_le (by omega)]; rfl
  | d + 1, j, hd, hj => by
    have hj' : j < V.length := by omega
    rw [edJ, List.length_append, edJ_len' d (j + 1) (by omega) (by omega), ← List.getElem_cons_drop hj', List.countP_cons, rd_in hj']
    split <;> simp <;> omega
theorem edI_len' {L V : List S4} : ∀ (d i : Nat), V.length - i = d → i ≤ V.length → (edI L V d i).length = pc (edgeV L) (V.drop i)
  | 0, i, hd, hi => by rw [List.drop_eq_nil_of_le (by omega)]; rfl
  | d + 1, i, hd, hi => by
    have hi' : i < V.length := by omega
    rw [edI, List.length_append, edI_len' d (i + 1) (by omega) (by omega), edJ_len' _ _ rfl (by omega), ← List.getElem_cons_drop hi', pc, rd_in hi']
/-- does an edge end at the corner at place i -/
def inc (i : Nat) (e : I2) : Bool := (e.x == (i : Int)) || (e.y == (i : Int))
theorem edJ_inc {L V : List S4} {i k : Nat} (hk : k ≠ i) : ∀ (d j : Nat), (edJ L V k d j).countP (inc i) = if j ≤ i ∧ i < j + d ∧ edgeV L (rd V (k : Int)) (rd V (i : Int)) = true then 1 else 0
  | 0, j => by rw [if_neg (by omega)]; rfl
  | d + 1, j => by
    rw [edJ, List.countP_append, edJ_inc hk d (j + 1)]
    have e : inc i ⟨(k : Int), (j : Int)⟩ = decide (j = i) := by
      unfold inc
      rw [Bool.eq_iff_iff, Bool.or_eq_true, beq_iff_eq, beq_iff_eq, decide_eq_true_eq]
      simp only; omega
    by_cases c : edgeV L (rd V (k : Int)) (rd V (j : Int)) = true
    · rw [if_pos c, List.countP_cons, List.countP_nil, e]
      by_cases ji : j = i
      · subst ji
        rw [decide_eq_true rfl, if_pos rfl, if_neg (by omega), if_pos ⟨by omega, by omega, c⟩]
      · rw [decide_eq_false ji, if_neg (by decide)]
        by_cases c2 : j + 1 ≤ i ∧ i < j + 1 + d ∧ edgeV L (rd V (k : Int)) (rd V (i : Int)) = true
        · rw [if_pos c2, if_pos ⟨by omega, by omega, c2.2.2⟩]
        · rw [if_neg c2, if_neg (fun h => c2 ⟨by omega, by omega, h.2.2⟩)]
    · rw [if_neg c, List.countP_nil]
      by_cases ji : j = i
      · subst ji
        rw [if_neg (by omega), if_neg (fun h => c h.2.2)]
      · by_cases c2 : j + 1 ≤ i ∧ i < j + 1 + d ∧ edgeV L (rd V (k : Int)) (rd V (i : Int)) = true
        · rw [if_pos c2, if_pos ⟨by omega, by omega, c2.2.2⟩]
        · rw [if_neg c2, if_neg (fun h => c2 ⟨by omega, by omega, h.2.2⟩)]
theorem edJ_own {L V : List S4} {i : Nat} : ∀ (d j : Nat), (edJ L V i d j).countP (inc i) = (edJ L V i d j).length
  | 0, j => rfl
  | d + 1, j => by
    rw [edJ, List.countP_append, List.length_append, edJ_own d (j + 1)]
    congr 1
    split
    · simp [inc]
    · rfl
theorem edI_past {L V : List S4} {i : Nat} : ∀ (d k : Nat), i < k → V.length - k = d → (edI L V d k).countP (inc i) = 0
  | 0, k, _, _ => rfl
  | d + 1, k, hk, hd => by
    rw [edI, List.countP_append, edI_past d (k + 1) (by omega) (by omega), edJ_inc (by omega), if_neg (by omega)]
theorem edI_inc {L V : List S4} (nd : V.Nodup) {i : Nat} (hi : i < V.length) : ∀ (d k : Nat), k ≤ i → V.length - k = d → (edI L V d k).countP (inc i) = (V.drop k).countP (fun w => decide (w ≠ rd V (i : Int)) && edgeV L (rd V (i : Int)) w)
  | 0, k, hk, hd => by omega
  | d + 1, k, hk, hd => by
    have hk' : k < V.length := by omega
    have inj : ∀ a b : Nat, a < V.length → b < V.length → a ≠ b → rd V (a : Int) ≠ rd V (b : Int) := fun a b ha hb ne e => by
      rw [rd_in ha, rd_in hb] at e
      exact ne ((List.getElem_inj nd).1 e)
    rw [edI, List.countP_append, ← List.getElem_cons_drop hk', List.countP_cons, ← rd_in hk']
    by_cases c : k = i
    · subst c
      rw [edJ_own, edJ_len' _ _ rfl (by omega), edI_past d (k + 1) (by omega) (by omega)]
      have e1 : (decide (rd V (k : Int) ≠ rd V (k : Int)) && edgeV L (rd V (k : Int)) (rd V (k : Int))) = false := by simp
      rw [e1, if_neg (by decide)]
      refine congrArg (· + 0) (count_congr fun w hw => ?_)
      obtain ⟨m, hm, e⟩ := List.getElem_of_mem hw
      rw [List.length_drop] at hm
      rw [List.getElem_drop] at e
      have : w ≠ rd V (k : Int) := by
        rw [← e, ← rd_in (show k + 1 + m < V.length by omega)]
        exact inj _ _ (by omega) hk' (by omega)
      rw [decide_eq_true this, Bool.true_and]
    · rw [edJ_inc c, edI_inc nd hi d (k + 1) (by omega) (by omega)]
      have ne := inj k i hk' hi c
      rw [decide_eq_true ne, Bool.true_and, edge_sym L (rd V (i : Int)) (rd V (k : Int))]
      by_cases c2 : edgeV L (rd V (k : Int)) (rd V (i : Int)) = true
      · rw [if_pos ⟨by omega, by omega, c2⟩, if_pos c2]; omega
      · rw [if_neg (fun h => c2 h.2.2), if_neg c2]; omega
/-! ### the law's loops -/
theorem euler_l17 {E : List I2} {V : List S4} {K : List Int} (hE : E.length ≤ 1000000000) {i : Nat} : ∀ (d k c : Nat), E.length - k = d → k ≤ E.length → c ≤ k →
    Lv (fun K' n => laws_FnEuler.l17 K' n (i : Int) (c : Int) (k : Int) E V K) (((), (), (), (i : Int), ((c + (E.drop k).countP (inc i) : Nat) : Int), ()), (E, V, K, ())) := by
  intro d
  induction d with
  | zero =>
    intro k c hd hk hc
    refine Lv.step (g := fun K' n => laws_FnEuler.s17 K' (laws_FnEuler.l17 K' n) (i : Int) (c : Int) (k : Int) E V K) ?_ (fun _ _ => rfl)
    rw [List.drop_eq_nil_of_le (by omega)]
    simp only [laws_FnEuler.s17, decide_eq_true_eq, if_neg (show ¬ (k : Int) < (E.length : Int) by omega), List.countP_nil, Nat.add_zero]
    exact .now fun _ _ => rfl
  | succ d ih =>
    intro k c hd hk hc
    have hk' : k < E.length := by omega
    have e : E.getD k default = E[k] := by simp [List.getD_eq_getElem?_getD, hk']
    have w1 : W ((k : Int) + 1) = ((k + 1 : Nat) : Int) := by rw [W_id (by omega) (by omega)]; omega
    have w2 : W ((c : Int) + 1) = ((c + 1 : Nat) : Int) := by rw [W_id (by omega) (by omega)]; omega
    refine Lv.step (g := fun K' n => laws_FnEuler.s17 K' (laws_FnEuler.l17 K' n) (i : Int) (c : Int) (k : Int) E V K) ?_ (fun _ _ => rfl)
    simp only [laws_FnEuler.s17, decide_eq_true (show (k : Int) < (E.length : Int) by omega), if_true, if_pos (show (k : Int) < (E.length : Int) by omega), if_pos (Int.natCast_nonneg _), Int.toNat_natCast, if_pos hk', e, w1, w2]
    rw [← List.getElem_cons_drop hk', List.countP_cons]
    by_cases c1 : (E[k].x == (i : Int)) = true
    · have ei : inc i E[k] = true := by unfold inc; rw [c1, Bool.true_or]
      rw [if_pos ei]
      simp only [if_pos c1]
      have := ih (k + 1) (c + 1) (by omega) (by omega) (by omega)
      rw [show c + ((E.drop (k + 1)).countP (inc i) + 1) = c + 1 + (E.drop (k + 1)).countP (inc i) by omega]
      exact this
    · simp only [if_neg c1]
      by_cases c2 : (E[k].y == (i : Int)) = true
      · have ei : inc i E[k] = true := by unfold inc; rw [c2, Bool.or_true]
        rw [if_pos ei]
        simp only [if_pos c2]
        have := ih (k + 1) (c + 1) (by omega) (by omega) (by omega)
        rw [show c + ((E.drop (k + 1)).countP (inc i) + 1) = c + 1 + (E.drop (k + 1)).countP (inc i) by omega]
        exact this
      · have ei : ¬ inc i E[k] = true := by unfold inc; rw [Bool.or_eq_true]; exact fun h => h.elim c1 c2
        rw [if_neg ei]
        simp only [if_neg c2]
        exact ih (k + 1) c (by omega) (by omega) (by omega)
theorem euler_l13 {E : List I2} {V : List S4} {K : List Int} (hE : E.length ≤ 1000000000) (hV : V.length ≤ 100000) (h3 : ∀ i : Nat, i < V.length → 3 ≤ E.countP (inc i)) : ∀ (d i : Nat), V.length - i = d → i ≤ V.length →
    Lv (fun K' n => laws_FnEuler.l13 K' n (i : Int) E V K) (.inr (((), (), (), ()), (E, V, K, ()))) := by
  intro d
  induction d with
  | zero =>
    intro i hd hi
    refine Lv.step (g := fun K' n => laws_FnEuler.s13 K' (laws_FnEuler.l13 K' n) (i : Int) E V K) ?_ (fun _ _ => rfl)
    simp only [laws_FnEuler.s13, decide_eq_true_eq, if_neg (show ¬ (i : Int) < (V.length : Int) by omega)]
    exact .now fun _ _ => rfl
  | succ d ih =>
    intro i hd hi
    have hi' : i < V.length := by omega
    have w1 : W ((i : Int) + 1) = ((i + 1 : Nat) : Int) := by rw [W_id (by omega) (by omega)]; omega
    refine Lv.step (g := fun K' n => laws_FnEuler.s13 K' (laws_FnEuler.l13 K' n) (i : Int) E V K) ?_ (fun _ _ => rfl)
    simp only [laws_FnEuler.s13, decide_eq_true_eq, if_pos (show (i : Int) < (V.length : Int) by omega)]
    have l := euler_l17 (E := E) (V := V) (K := K) hE (i := i) E.length 0 0 rfl (Nat.zero_le _) (Nat.le_refl _)
    rw [List.drop_zero] at l
    refine Lv.bind l.ev ?_
    have := h3 i hi'
    have h3' : ¬ ((0 + E.countP (inc i) : Nat) : Int) < 3 := by omega
    simp only [decide_eq_true_eq, if_neg h3', w1]
    exact ih (i + 1) (by omega) (by omega)
theorem iEdges_no {L : List S4} (hl : L.length ≤ 2097152) (hb : (opV L && bddV L) = false) : Ev (fun k => impl_EdgesOf.f k L) [] := by
  unfold impl_EdgesOf.f
  refine (Bounded_ev hl).bind ?_
  rw [hb]; exact .now fun _ => rfl
theorem FnEuler_pure {a : List Int} (ha : a.length ≤ 9223372036854775807 ∧ ∀ x ∈ a, 0 ≤ x ∧ x ≤ 255) : ∃ k, laws_FnEuler.f k a = some true := by
  have key : Ex (fun k => laws_FnEuler.f k a) (fun r => r = true) := by
    unfold laws_FnEuler.f
    refine Ex.bind ((big_ev a).ex rfl) fun t1 h1 => ?_
    subst h1
    simp only [decide_eq_true_eq]
    by_cases hb : (a.length : Int) > 1048576
    · simp only [if_pos hb]; exact Ex.now rfl
    simp only [if_neg hb]
    refine Ex.bind (DrawCell_ex (a := a) (by omega)) fun L hL => ?_
    have hlen := (opV_ok hL).2
    have hok := (opV_ok hL).1
    refine Ex.bind ((Bounded_ev (L := L) (by omega)).ex (R := fun r => r = (opV L && bddV L)) rfl) fun t3 h3 => ?_
    subst h3
    rw [hL, Bool.true_and]
    cases hbd : bddV L with
    | false =>
      refine Ex.bind ((iEdges_no (L := L) (by omega) (by rw [hbd, Bool.and_false])).ex (R := fun r => r = []) rfl) fun t4 h4 => ?_
      subst h4
      refine Ex.bind ((sBounded_ev (L := L) (by omega)).ex (R := fun r => r = (opV L && bddV L)) rfl) fun t5 h5 => ?_
      subst h5
      rw [hL, hbd]
      exact Ex.now rfl
    | true =>
      obtain ⟨V, oV, hV, mV, e1⟩ := icorners_ev hok hlen
      have q1 := Rk.edges_l6 hok (show L.length ≤ 2097152 by omega) (show V.length ≤ 20000 by omega) V.length 0 [] (by omega) (by omega) (by simp)
      rw [List.nil_append] at q1
      have hE : (edI L V V.length 0).length ≤ 1000000000 := by
        have := Rk.edI_len L V V.length 0
        have h2 : V.length * V.length ≤ 13824 * 13824 := Nat.mul_le_mul hV hV
        omega
      have ev : Ev (fun k => impl_EdgesOf.f k L) (edI L V V.length 0) := by
        unfold impl_EdgesOf.f
        refine (Bounded_ev (by omega)).bind ?_
        rw [hL, hbd]; simp only [Bool.and_self, Bool.not_true, Bool.false_eq_true, if_false]
        exact e1.bind (q1.ev.bind (.now fun _ => rfl))
      have cv : Ev (fun k => impl_Corners.f k L) V := by
        unfold impl_Corners.f
        refine (iOpen_ev (by omega)).bind ?_
        rw [hL]; simp only [Bool.not_true, Bool.false_eq_true, if_false]
        exact e1.bind (.now fun _ => rfl)
      obtain ⟨f, hc⟩ := cell_of hL hbd oV mV
      have he : ∀ v ∈ V, ∀ w ∈ V, w ≠ v → (edgeV L v w = true ↔ Ed (lsV L) v w) := fun v hv w hw ne => edge_ed hL hc hv hw ne
      have eu := hc.euler he (fun a _ b _ => edge_sym L a b)
      have f4 := hc.faces4
      have el := edI_len' (L := L) (V := V) V.length 0 (by omega) (by omega)
      rw [List.drop_zero] at el
      have ml : (lsV L).length = (ndV L).length := List.length_map _
      have nl := ndV_len (L := L)
      have deg : ∀ i : Nat, i < V.length → 3 ≤ (edI L V V.length 0).countP (inc i) := fun i hi => by
        rw [edI_inc hc.vnd hi V.length 0 (Nat.zero_le _) (by omega), List.drop_zero]
        exact hc.degree he (by rw [rd_in hi]; exact List.getElem_mem _)
      have l13 := euler_l13 (K := ndV L) hE (show V.length ≤ 100000 by omega) deg V.length 0 rfl (Nat.zero_le _)
      refine Ex.bind (ev.ex (R := fun r => r = edI L V V.length 0) rfl) fun t4 h4 => ?_
      subst h4
      refine Ex.bind ((sBounded_ev (L := L) (by omega)).ex (R := fun r => r = (opV L && bddV L)) rfl) fun t5 h5 => ?_
      subst h5
      rw [hL, hbd]
      simp only [Bool.and_self, beq_self_eq_true, Bool.not_true, Bool.false_eq_true, if_false]
      refine Ex.bind (cv.ex (R := fun r => r = V) rfl) fun t6 h6 => ?_
      subst h6
      refine Ex.bind ((iNeeded_ev (L := L) (by omega)).ex (R := fun r => r = ndV L) rfl) fun t7 h7 => ?_
      subst h7
      refine Ex.bind (l13.ev.ex (R := fun r => r = .inr (((), (), (), ()), (edI L t6 t6.length 0, t6, ndV L, ()))) rfl) fun x8 h8 => ?_
      subst h8
      have e1 : (t6.length : Int) + ((ndV L).length : Int) = ((edI L t6 t6.length 0).length : Int) + 2 := by omega
      have e2 : decide (((ndV L).length : Int) ≥ 4) = true := by rw [decide_eq_true_eq]; omega
      simp only [e1, beq_self_eq_true, if_true]
      exact Ex.now e2
  obtain ⟨v, ⟨K, h⟩, rfl⟩ := key
  exact ⟨K, h K (Nat.le_refl _)⟩
end Go.Proofs.YtalkkenkeilmpaaGreat.Q
