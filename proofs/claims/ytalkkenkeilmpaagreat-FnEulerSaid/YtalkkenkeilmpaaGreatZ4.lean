/- Picked out of other texts. -/
import Derived.Test.YtalkkenkeilmpaaGreatZ3
namespace Go.Proofs.YtalkkenkeilmpaaGreat.Q
open Go Go.RowKit Go.Proofs Go.Proofs.YtalkkenkeilmpaaGreat.Ev Go.Proofs.YtalkkenkeilmpaaGreat.G
set_option linter.unusedSimpArgs false
set_option linter.unusedVariables false

set_option linter.unusedSimpArgs false
set_option linter.unusedVariables false
namespace Rk
theorem z3_b (c : S3) : ((c.x == 0) && ((c.y == 0) && (c.z == 0))) = true ↔ c = z3 := by
  rw [S3_ext]; simp [z3]
theorem dt_of_cx {p q : S3} (h : cx p q = z3) (r : S3) : dt p q r = 0 := by
  obtain ⟨h1, h2, h3⟩ := cx_zero.mp h
  obtain ⟨a, b, c⟩ := p; obtain ⟨d, e, f⟩ := q; obtain ⟨g, i, j⟩ := r
  simp only [dt, ip, cx] at *
  grind
theorem dt_self_r (p q : S3) : dt p q q = 0 := by simp only [dt, ip, cx]; grind
theorem dt_self_l (p q : S3) : dt p p q = 0 := by simp only [dt, ip, cx]; grind
theorem dt_self_o (p q : S3) : dt p q p = 0 := by simp only [dt, ip, cx]; grind
theorem dt_swap (p q r : S3) : dt p r q = -dt p q r := by simp only [dt, ip, cx]; grind
theorem dt_rot (p q r : S3) : dt q r p = dt p q r := by simp only [dt, ip, cx]; grind
theorem cx_swap {p q : S3} : cx q p = z3 ↔ cx p q = z3 := by rw [cx_zero, cx_zero]; constructor <;> (rintro ⟨h1, h2, h3⟩; refine ⟨?_, ?_, ?_⟩ <;> grind)
theorem cx_self (p : S3) : cx p p = z3 := by rw [cx_zero]; refine ⟨?_, ?_, ?_⟩ <;> grind
theorem cx_z_l (q : S3) : cx z3 q = z3 := by simp [cx, z3]
theorem cx_trans {r a b : S3} (hr : r ≠ z3) (ha : cx r a = z3) (hb : cx r b = z3) : cx a b = z3 := by
  obtain ⟨x, y, z⟩ := r; obtain ⟨a1, a2, a3⟩ := a; obtain ⟨b1, b2, b3⟩ := b
  rw [cx_zero] at ha hb ⊢
  simp only at ha hb ⊢
  obtain ⟨h1, h2, h3⟩ := ha
  obtain ⟨g1, g2, g3⟩ := hb
  have hz : x ≠ 0 ∨ y ≠ 0 ∨ z ≠ 0 := by
    by_cases hx : x = 0 <;> by_cases hy : y = 0 <;> by_cases hz : z = 0 <;> simp_all [z3]
  have key : ∀ t : Int, t ≠ 0 → ∀ u v : Int, t * u = t * v → u = v := fun t ht u v h => Int.eq_of_mul_eq_mul_left ht h
  rcases hz with h | h | h
  · refine ⟨key x h _ _ ?_, key x h _ _ ?_, key x h _ _ ?_⟩ <;> grind
  · refine ⟨key y h _ _ ?_, key y h _ _ ?_, key y h _ _ ?_⟩ <;> grind
  · refine ⟨key z h _ _ ?_, key z h _ _ ?_, key z h _ _ ?_⟩ <;> grind
theorem dt_plane {n a b c : S3} (hn : n ≠ z3) (ha : n.x * a.x + n.y * a.y + n.z * a.z = 0) (hb : n.x * b.x + n.y * b.y + n.z * b.z = 0) (hc : n.x * c.x + n.y * c.y + n.z * c.z = 0) : dt a b c = 0 := by
  obtain ⟨x, y, z⟩ := n; obtain ⟨a1, a2, a3⟩ := a; obtain ⟨b1, b2, b3⟩ := b; obtain ⟨c1, c2, c3⟩ := c
  simp only [dt, ip, cx] at *
  have hz : x ≠ 0 ∨ y ≠ 0 ∨ z ≠ 0 := by
    by_cases hx : x = 0 <;> by_cases hy : y = 0 <;> by_cases hz : z = 0 <;> simp_all [z3]
  have key : ∀ t : Int, t ≠ 0 → ∀ u : Int, t * u = 0 → u = 0 := fun t ht u h => (Int.mul_eq_zero.mp h).resolve_left ht
  rcases hz with h | h | h
  · refine key x h _ ?_
    have e : x * (a1 * (b2 * c3 - b3 * c2) + a2 * (b3 * c1 - b1 * c3) + a3 * (b1 * c2 - b2 * c1)) = (x * a1 + y * a2 + z * a3) * (b2 * c3 - b3 * c2) + (x * b1 + y * b2 + z * b3) * (c2 * a3 - c3 * a2) + (x * c1 + y * c2 + z * c3) * (a2 * b3 - a3 * b2) := by grind
    rw [e, ha, hb, hc]; simp
  · refine key y h _ ?_
    have e : y * (a1 * (b2 * c3 - b3 * c2) + a2 * (b3 * c1 - b1 * c3) + a3 * (b1 * c2 - b2 * c1)) = (x * a1 + y * a2 + z * a3) * (b3 * c1 - b1 * c3) + (x * b1 + y * b2 + z * b3) * (c3 * a1 - c1 * a3) + (x * c1 + y * c2 + z * c3) * (a3 * b1 - a1 * b3) := by grind
    rw [e, ha, hb, hc]; simp
  · refine key z h _ ?_
    have e : z * (a1 * (b2 * c3 - b3 * c2) + a2 * (b3 * c1 - b1 * c3) + a3 * (b1 * c2 - b2 * c1)) = (x * a1 + y * a2 + z * a3) * (b1 * c2 - b2 * c1) + (x * b1 + y * b2 + z * b3) * (c1 * a2 - c2 * a1) + (x * c1 + y * c2 + z * c3) * (a1 * b2 - a2 * b1) := by grind
    rw [e, ha, hb, hc]; simp
theorem dt_cx (p q r : S3) : dt p q r = (cx p q).x * r.x + (cx p q).y * r.y + (cx p q).z * r.z := by simp only [dt, ip, cx]; grind
theorem dt_span {p q a b c : S3} (h : cx p q ≠ z3) (ha : dt p q a = 0) (hb : dt p q b = 0) (hc : dt p q c = 0) : dt a b c = 0 := by
  rw [dt_cx] at ha hb hc
  exact dt_plane h ha hb hc
def RankIs (L : List S3) (v : Int) : Prop :=
  (v = 3 ∧ ∃ p ∈ L, ∃ q ∈ L, ∃ r ∈ L, dt p q r ≠ 0) ∨ (v = 2 ∧ (∀ p ∈ L, ∀ q ∈ L, ∀ r ∈ L, dt p q r = 0) ∧ ∃ p ∈ L, ∃ q ∈ L, cx p q ≠ z3) ∨
  (v = 1 ∧ (∀ p ∈ L, ∀ q ∈ L, cx p q = z3) ∧ ∃ p ∈ L, p ≠ z3) ∨ (v = 0 ∧ ∀ p ∈ L, p = z3)
theorem RankIs.unique {L : List S3} {v u : Int} (h : RankIs L v) (g : RankIs L u) : v = u := by
  rcases h with ⟨rfl, p, hp, q, hq, r, hr, h⟩ | ⟨rfl, h1, p, hp, q, hq, h2⟩ | ⟨rfl, h1, p, hp, h2⟩ | ⟨rfl, h⟩ <;> rcases g with ⟨rfl, p', hp', q', hq', r', hr', g⟩ | ⟨rfl, g1, p', hp', q', hq', g2⟩ | ⟨rfl, g1, p', hp', g2⟩ | ⟨rfl, g⟩ <;> first
    | rfl
    | exact absurd (g1 p hp q hq r hr) h
    | exact absurd (dt_of_cx (g1 p hp q hq) r) h
    | (have := g p hp; subst this; exact absurd (dt_of_cx (cx_z_l q) r) h)
    | exact absurd (h1 p' hp' q' hq' r' hr') g
    | exact absurd (g1 p hp q hq) h2
    | (have := g p hp; subst this; exact absurd (cx_z_l q) h2)
    | exact absurd (dt_of_cx (h1 p' hp' q' hq') r') g
    | exact absurd (h1 p' hp' q' hq') g2
    | exact absurd (g p hp) h2
    | (have := h p' hp'; subst this; exact absurd (dt_of_cx (cx_z_l q') r') g)
    | (have := h p' hp'; subst this; exact absurd (cx_z_l q') g2)
    | exact absurd (h p' hp') g2
theorem RankIs.strip {L M : List S3} {v : Int} (h1 : ∀ p ∈ L, p ∈ M) (h2 : ∀ p ∈ M, p ≠ z3 → p ∈ L) (h : RankIs L v) : RankIs M v := by
  have zt1 : ∀ q r, dt z3 q r = 0 := fun q r => dt_of_cx (cx_z_l q) r
  have zt2 : ∀ p r, dt p z3 r = 0 := fun p r => dt_of_cx (cx_swap.mp (cx_z_l p)) r
  have zt3 : ∀ p q, dt p q z3 = 0 := fun p q => by rw [← dt_rot, ← dt_rot]; exact zt1 _ _
  rcases h with ⟨rfl, p, hp, q, hq, r, hr, h⟩ | ⟨rfl, g1, p, hp, q, hq, g2⟩ | ⟨rfl, g1, p, hp, g2⟩ | ⟨rfl, h⟩
  · exact .inl ⟨rfl, p, h1 p hp, q, h1 q hq, r, h1 r hr, h⟩
  · refine .inr (.inl ⟨rfl, fun p hp q hq r hr => ?_, p, h1 p hp, q, h1 q hq, g2⟩)
    by_cases ep : p = z3
    · subst ep; exact zt1 _ _
    by_cases eq : q = z3
    · subst eq; exact zt2 _ _
    by_cases er : r = z3
    · subst er; exact zt3 _ _
    exact g1 p (h2 p hp ep) q (h2 q hq eq) r (h2 r hr er)
  · refine .inr (.inr (.inl ⟨rfl, fun p hp q hq => ?_, p, h1 p hp, g2⟩))
    by_cases ep : p = z3
    · subst ep; exact cx_z_l _
    by_cases eq : q = z3
    · subst eq; exact cx_swap.mp (cx_z_l _)
    exact g1 p (h2 p hp ep) q (h2 q hq eq)
  · refine .inr (.inr (.inr ⟨rfl, fun p hp => ?_⟩))
    by_cases ep : p = z3
    · exact ep
    · exact h p (h2 p hp ep)
def greedy : Int → S3 → S3 → List S3 → Int
  | rk, _, _, [] => rk
  | rk, r0, r1, v :: vs => if rk = 0 ∧ v ≠ z3 then greedy 1 v r1 vs else if rk = 1 ∧ cx r0 v ≠ z3 then greedy 2 r0 v vs else if rk = 2 ∧ dt r0 r1 v ≠ 0 then 3 else greedy rk r0 r1 vs
def GInv (rk : Int) (r0 r1 : S3) (L : List S3) : Prop :=
  (rk = 0 ∧ ∀ p ∈ L, p = z3) ∨ (rk = 1 ∧ r0 ∈ L ∧ r0 ≠ z3 ∧ ∀ p ∈ L, cx r0 p = z3) ∨ (rk = 2 ∧ r0 ∈ L ∧ r1 ∈ L ∧ cx r0 r1 ≠ z3 ∧ ∀ p ∈ L, dt r0 r1 p = 0)
theorem greedy_is : ∀ (vs : List S3) (rk : Int) (r0 r1 : S3) (L : List S3), GInv rk r0 r1 L → RankIs (L ++ vs) (greedy rk r0 r1 vs)
  | [], rk, r0, r1, L, h => by
    simp only [greedy, List.append_nil]
    rcases h with ⟨rfl, h⟩ | ⟨rfl, h0, h1, h2⟩ | ⟨rfl, h0, h1, h2, h3⟩
    · exact .inr (.inr (.inr ⟨rfl, h⟩))
    · exact .inr (.inr (.inl ⟨rfl, fun p hp q hq => cx_trans h1 (h2 p hp) (h2 q hq), r0, h0, h1⟩))
    · exact .inr (.inl ⟨rfl, fun p hp q hq r hr => dt_span h2 (h3 p hp) (h3 q hq) (h3 r hr), r0, h0, r1, h1, h2⟩)
  | v :: vs, rk, r0, r1, L, h => by
    rw [show L ++ v :: vs = (L ++ [v]) ++ vs from by simp]
    have hv : v ∈ L ++ [v] := by simp
    have up : ∀ {p}, p ∈ L → p ∈ L ++ [v] := fun h => by simp [h]
    have cases_ : ∀ {Q : S3 → Prop}, (∀ p ∈ L, Q p) → Q v → ∀ p ∈ L ++ [v], Q p := fun h1 h2 p hp => by
      rcases List.mem_append.mp hp with hp | hp
      · exact h1 p hp
      · simp only [List.mem_singleton] at hp; subst hp; exact h2
    unfold greedy
    rcases h with ⟨rfl, h⟩ | ⟨rfl, h0, h1, h2⟩ | ⟨rfl, h0, h1, h2, h3⟩
    · by_cases ev : v = z3
      · rw [if_neg (by simp [ev]), if_neg (by simp), if_neg (by simp)]
        exact greedy_is vs 0 r0 r1 _ (.inl ⟨rfl, cases_ h ev⟩)
      · rw [if_pos ⟨rfl, ev⟩]
        exact greedy_is vs 1 v r1 _ (.inr (.inl ⟨rfl, hv, ev, cases_ (fun p hp => by rw [h p hp]; exact cx_swap.mp (cx_z_l v)) (cx_self v)⟩))
    · rw [if_neg (by simp)]
      by_cases ev : cx r0 v = z3
      · rw [if_neg (by simp [ev]), if_neg (by simp)]
        exact greedy_is vs 1 r0 r1 _ (.inr (.inl ⟨rfl, up h0, h1, cases_ h2 ev⟩))
      · rw [if_pos ⟨rfl, ev⟩]
        exact greedy_is vs 2 r0 v _ (.inr (.inr ⟨rfl, up h0, hv, ev, cases_ (fun p hp => dt_swap r0 p v ▸ by rw [dt_of_cx (h2 p hp)]; rfl) (dt_self_r r0 v)⟩))
    · rw [if_neg (by simp), if_neg (by simp)]
      by_cases ev : dt r0 r1 v = 0
      · rw [if_neg (by simp [ev])]
        exact greedy_is vs 2 r0 r1 _ (.inr (.inr ⟨rfl, up h0, up h1, h2, cases_ h3 ev⟩))
      · rw [if_pos ⟨rfl, ev⟩]
        exact .inl ⟨rfl, r0, by simp [h0], r1, by simp [h1], v, by simp, ev⟩
def hasD (p q : S3) : List S3 → Bool
  | [] => false
  | r :: l => if dt p q r = 0 then hasD p q l else true
def scan1 (p : S3) : Int → List S3 → Int
  | r, [] => r
  | r, q :: l => if cx p q = z3 then scan1 p r l else if hasD p q l = true then 3 else scan1 p (if r < 2 then 2 else r) l
def scan0 : Int → List S3 → Int
  | r, [] => r
  | r, p :: l => if scan1 p (if r = 0 then 1 else r) l = 3 then 3 else scan0 (scan1 p (if r = 0 then 1 else r) l) l
theorem hasD_t {p q : S3} : ∀ {l : List S3}, hasD p q l = true → ∃ r ∈ l, dt p q r ≠ 0
  | [], h => by simp [hasD] at h
  | x :: l, h => by
    unfold hasD at h
    split at h
    · obtain ⟨r, hr, h⟩ := hasD_t h; exact ⟨r, by simp [hr], h⟩
    · rename_i hx; exact ⟨x, by simp, hx⟩
theorem hasD_f {p q : S3} : ∀ {l : List S3}, ¬hasD p q l = true → ∀ r ∈ l, dt p q r = 0
  | [], _ => fun r h => by cases h
  | x :: l, h => by
    unfold hasD at h
    split at h
    · rename_i hx
      intro r hr
      rcases List.mem_cons.mp hr with rfl | hr
      · exact hx
      · exact hasD_f h r hr
    · simp at h
theorem scan1_is (p : S3) : ∀ (l : List S3) (r : Int), r = 1 ∨ r = 2 → (scan1 p r l = 3 ∧ ∃ a ∈ l, ∃ b ∈ l, dt p a b ≠ 0) ∨
    ((∀ a ∈ l, ∀ b ∈ l, dt p a b = 0) ∧ ((scan1 p r l = 2 ∧ (r = 2 ∨ ∃ a ∈ l, cx p a ≠ z3)) ∨ (scan1 p r l = 1 ∧ r = 1 ∧ ∀ a ∈ l, cx p a = z3)))
  | [], r, hr => by
    right
    refine ⟨fun a h => by (cases h), ?_⟩
    rcases hr with rfl | rfl
    · exact .inr ⟨rfl, rfl, fun a h => by cases h⟩
    · exact .inl ⟨rfl, .inl rfl⟩
  | q :: l, r, hr => by
    unfold scan1
    have ext : (∀ a ∈ l, ∀ b ∈ l, dt p a b = 0) → (∀ b ∈ l, dt p q b = 0) → ∀ a ∈ q :: l, ∀ b ∈ q :: l, dt p a b = 0 := fun h1 h2 a ha b hb => by
      rcases List.mem_cons.mp ha with rfl | ha' <;> rcases List.mem_cons.mp hb with rfl | hb'
      · exact dt_self_r _ _
      · exact h2 b hb'
      · rw [dt_swap, h2 a ha']; rfl
      · exact h1 a ha' b hb'
    by_cases c : cx p q = z3
    · rw [if_pos c]
      rcases scan1_is p l r hr with ⟨h, a, ha, b, hb, h2⟩ | ⟨h1, h2⟩
      · exact .inl ⟨h, a, by simp [ha], b, by simp [hb], h2⟩
      · refine .inr ⟨ext h1 (fun b _ => dt_of_cx c b), ?_⟩
        rcases h2 with ⟨h2, h3⟩ | ⟨h2, h3, h4⟩
        · refine .inl ⟨h2, ?_⟩
          rcases h3 with h3 | ⟨a, ha, h3⟩
          · exact .inl h3
          · exact .inr ⟨a, by simp [ha], h3⟩
        · refine .inr ⟨h2, h3, fun a ha => ?_⟩
          rcases List.mem_cons.mp ha with rfl | ha
          · exact c
          · exact h4 a ha
    · rw [if_neg c]
      by_cases d : hasD p q l = true
      · rw [if_pos d]
        obtain ⟨b, hb, h⟩ := hasD_t d
        exact .inl ⟨rfl, q, by simp, b, by simp [hb], h⟩
      · rw [if_neg d]
        have e : (if r < 2 then 2 else r) = 2 := by split <;> omega
        rw [e]
        rcases scan1_is p l 2 (.inr rfl) with ⟨h, a, ha, b, hb, h2⟩ | ⟨h1, h2⟩
        · exact .inl ⟨h, a, by simp [ha], b, by simp [hb], h2⟩
        · refine .inr ⟨ext h1 (hasD_f d), ?_⟩
          rcases h2 with ⟨h2, h3⟩ | ⟨h2, h3, h4⟩
          · exact .inl ⟨h2, .inr ⟨q, by simp, c⟩⟩
          · omega
theorem scan0_is : ∀ (l : List S3) (r : Int), r = 0 ∨ r = 1 ∨ r = 2 → (scan0 r l = 3 ∧ ∃ a ∈ l, ∃ b ∈ l, ∃ c ∈ l, dt a b c ≠ 0) ∨
    ((∀ a ∈ l, ∀ b ∈ l, ∀ c ∈ l, dt a b c = 0) ∧ ((scan0 r l = 2 ∧ (r = 2 ∨ ∃ a ∈ l, ∃ b ∈ l, cx a b ≠ z3)) ∨ ((∀ a ∈ l, ∀ b ∈ l, cx a b = z3) ∧ ((scan0 r l = 1 ∧ (r = 1 ∨ r = 0 ∧ l ≠ [])) ∨ (scan0 r l = 0 ∧ r = 0 ∧ l = [])))))
  | [], r, hr => by
    right
    refine ⟨fun a h => by (cases h), ?_⟩
    rcases hr with rfl | rfl | rfl
    · exact .inr ⟨fun a h => by (cases h), .inr ⟨rfl, rfl, rfl⟩⟩
    · exact .inr ⟨fun a h => by (cases h), .inl ⟨rfl, .inl rfl⟩⟩
    · exact .inl ⟨rfl, .inl rfl⟩
  | p :: l, r, hr => by
    unfold scan0
    have hr1 : (if r = 0 then 1 else r) = 1 ∨ (if r = 0 then 1 else r) = 2 := by split <;> omega
    have hr2 : (if r = 0 then 1 else r) = 2 → r = 2 := by split <;> omega
    have hr3 : (if r = 0 then 1 else r) = 1 → r = 1 ∨ r = 0 ∧ p :: l ≠ [] := by
      split
      · rename_i h; exact fun _ => .inr ⟨h, by simp⟩
      · exact fun h => .inl h
    generalize (if r = 0 then 1 else r) = r1 at *
    rcases scan1_is p l r1 hr1 with ⟨h, a, ha, b, hb, h2⟩ | ⟨h1, h2⟩
    · rw [if_pos h]
      exact .inl ⟨rfl, p, by simp, a, by simp [ha], b, by simp [hb], h2⟩
    · have ext : (∀ a ∈ l, ∀ b ∈ l, ∀ c ∈ l, dt a b c = 0) → ∀ a ∈ p :: l, ∀ b ∈ p :: l, ∀ c ∈ p :: l, dt a b c = 0 := fun g a ha b hb c hc => by
        rcases List.mem_cons.mp ha with rfl | ha' <;> rcases List.mem_cons.mp hb with rfl | hb' <;> rcases List.mem_cons.mp hc with rfl | hc'
        · exact dt_self_l _ _
        · exact dt_self_l _ _
        · exact dt_self_o _ _
        · exact h1 b hb' c hc'
        · exact dt_self_r _ _
        · have := h1 a ha' c hc'
          grind [dt, ip, cx]
        · have := h1 a ha' b hb'
          grind [dt, ip, cx]
        · exact g a ha' b hb' c hc'
      have n3 : scan1 p r1 l ≠ 3 := by rcases h2 with ⟨h2, _⟩ | ⟨h2, _⟩ <;> omega
      rw [if_neg n3]
      have hs : scan1 p r1 l = 0 ∨ scan1 p r1 l = 1 ∨ scan1 p r1 l = 2 := by rcases h2 with ⟨h2, _⟩ | ⟨h2, _⟩ <;> omega
      rcases scan0_is l (scan1 p r1 l) hs with ⟨g, a, ha, b, hb, c, hc, g2⟩ | ⟨g1, g2⟩
      · exact .inl ⟨g, a, by simp [ha], b, by simp [hb], c, by simp [hc], g2⟩
      · refine .inr ⟨ext g1, ?_⟩
        rcases g2 with ⟨g2, g3⟩ | ⟨g2, g3⟩
        · refine .inl ⟨g2, ?_⟩
          rcases g3 with g3 | ⟨a, ha, b, hb, g3⟩
          · rcases h2 with ⟨_, h3 | ⟨a, ha, h3⟩⟩ | ⟨h2, _⟩
            · exact .inl (hr2 h3)
            · exact .inr ⟨p, by simp, a, by simp [ha], h3⟩
            · omega
          · exact .inr ⟨a, by simp [ha], b, by simp [hb], g3⟩
        · rcases h2 with ⟨h2, h3⟩ | ⟨h2, h3, h4⟩
          · exfalso; rcases g3 with ⟨_, g | g⟩ | ⟨_, g, _⟩ <;> omega
          · refine .inr ⟨fun a ha b hb => ?_, .inl ⟨?_, hr3 h3⟩⟩
            · rcases List.mem_cons.mp ha with rfl | ha' <;> rcases List.mem_cons.mp hb with rfl | hb'
              · exact cx_self _
              · exact h4 b hb'
              · exact cx_swap.mp (h4 a ha')
              · exact g2 a ha' b hb'
            · rcases g3 with ⟨g, _⟩ | ⟨_, g, _⟩ <;> omega
theorem scan0_rank {l : List S3} (hz : ∀ p ∈ l, p ≠ z3) : RankIs l (scan0 0 l) := by
  rcases scan0_is l 0 (.inl rfl) with ⟨g, a, ha, b, hb, c, hc, g2⟩ | ⟨g1, ⟨g2, g3⟩ | ⟨g2, ⟨g3, g4⟩ | ⟨g3, _, g4⟩⟩⟩
  · exact .inl ⟨g, a, ha, b, hb, c, hc, g2⟩
  · rcases g3 with g3 | ⟨a, ha, b, hb, g3⟩
    · omega
    · exact .inr (.inl ⟨g2, g1, a, ha, b, hb, g3⟩)
  · refine .inr (.inr (.inl ⟨g3, g2, ?_⟩))
    cases l with
    | nil => rcases g4 with g4 | ⟨_, g4⟩ <;> first | omega | exact absurd rfl g4
    | cons p l => exact ⟨p, by simp, hz p (by simp)⟩
  · subst g4; exact .inr (.inr (.inr ⟨g3, fun p h => by cases h⟩))
theorem v3_nz {p : S4} (h : okp p = true) : v3 p ≠ z3 := by
  intro e
  have h5 := (okp_iff.mp h).2.2.2.2.1
  have e1 : p.a = 0 := congrArg S3.x e
  have e2 : p.b = 0 := congrArg S3.y e
  have e3 : p.c = 0 := congrArg S3.z e
  omega
theorem scan1_3 {p : S3} {l : List S3} {r : Int} (hr : r = 1 ∨ r = 2) : scan1 p r l = 1 ∨ scan1 p r l = 2 ∨ scan1 p r l = 3 := by
  rcases scan1_is p l r hr with ⟨h, _⟩ | ⟨_, ⟨h, _⟩ | ⟨h, _⟩⟩ <;> omega
theorem rank_l14 {L : List S4} (hL : ∀ p ∈ L, okp p = true) (hl : L.length ≤ 2097152) {i j : Nat} (hi : i < L.length) (hj : j < L.length) {r : Int} : ∀ (d c : Nat), L.length - c = d → c ≤ L.length →
    Lv (fun k n => spec_l4Rank.l14 k n L r (i : Int) (j : Int) (c : Int)) (if hasD (v3 (rd L (i : Int))) (v3 (rd L (j : Int))) ((L.drop c).map v3) = true then .inl ((3, ()), ()) else .inr ((L, r, (i : Int), (j : Int), ()), ())) := by
  intro d
  induction d with
  | zero =>
    intro c hd hc
    refine Lv.step (g := fun k n => spec_l4Rank.s14 k (spec_l4Rank.l14 k n) L r (i : Int) (j : Int) (c : Int)) ?_ (fun _ _ => rfl)
    simp only [spec_l4Rank.s14, decide_eq_true_eq, if_neg (show ¬ (c : Int) < (L.length : Int) by omega)]
    rw [List.drop_eq_nil_of_le (by omega)]
    exact .now fun _ _ => rfl
  | succ d ih =>
    intro c hd hc
    have hc' : c < L.length := by omega
    have e : ∀ k, spec_l4Det3.f k (rd L (i : Int)) (rd L (j : Int)) (rd L (c : Int)) = some (dt (v3 (rd L (i : Int))) (v3 (rd L (j : Int))) (v3 (rd L (c : Int)))) := fun k => l4Det3_f k (rdB hL i).1 (rdB hL j).1 (rdB hL c).1
    refine Lv.step (g := fun k n => spec_l4Rank.s14 k (spec_l4Rank.l14 k n) L r (i : Int) (j : Int) (c : Int)) ?_ (fun _ _ => rfl)
    simp only [spec_l4Rank.s14, decide_eq_true_eq, if_pos (show (c : Int) < (L.length : Int) by omega), if_pos (show (i : Int) < (L.length : Int) by omega), if_pos (show (j : Int) < (L.length : Int) by omega), if_pos (Int.natCast_nonneg _), wrn hc' hl, e, Option.bind_some, ne_iff]
    rw [← List.getElem_cons_drop hc', List.map_cons, hasD, ← rd_in hc']
    by_cases z : dt (v3 (rd L (i : Int))) (v3 (rd L (j : Int))) (v3 (rd L (c : Int))) = 0
    · rw [if_pos z]
      simp only [z, ne_eq, not_true_eq_false, if_false]
      exact ih (c + 1) (by omega) (by omega)
    · rw [if_neg z, if_pos rfl]
      simp only [ne_eq, z, not_false_eq_true, if_true]
      exact .now fun _ _ => rfl
theorem rank_l8 {L : List S4} (hL : ∀ p ∈ L, okp p = true) (hl : L.length ≤ 2097152) {i : Nat} (hi : i < L.length) : ∀ (d j : Nat) (r : Int), L.length - j = d → j ≤ L.length → r = 1 ∨ r = 2 →
    Lv (fun k n => spec_l4Rank.l8 k n L r (i : Int) (j : Int)) (if scan1 (v3 (rd L (i : Int))) r ((L.drop j).map v3) = 3 then .inl ((3, ()), ()) else .inr ((L, scan1 (v3 (rd L (i : Int))) r ((L.drop j).map v3), (i : Int), ()), ())) := by
  intro d
  induction d with
  | zero =>
    intro j r hd hj hr
    refine Lv.step (g := fun k n => spec_l4Rank.s8 k (spec_l4Rank.l8 k n) L r (i : Int) (j : Int)) ?_ (fun _ _ => rfl)
    simp only [spec_l4Rank.s8, decide_eq_true_eq, if_neg (show ¬ (j : Int) < (L.length : Int) by omega)]
    rw [List.drop_eq_nil_of_le (by omega), List.map_nil, scan1, if_neg (by omega)]
    exact .now fun _ _ => rfl
  | succ d ih =>
    intro j r hd hj hr
    have hj' : j < L.length := by omega
    have e : ∀ k, spec_l4Cross.f k (rd L (i : Int)) (rd L (j : Int)) = some (cx (v3 (rd L (i : Int))) (v3 (rd L (j : Int)))) := fun k => l4Cross_f k (rdB hL i).1 (rdB hL j).1
    refine Lv.step (g := fun k n => spec_l4Rank.s8 k (spec_l4Rank.l8 k n) L r (i : Int) (j : Int)) ?_ (fun _ _ => rfl)
    simp only [spec_l4Rank.s8, decide_eq_true_eq, if_pos (show (i : Int) < (L.length : Int) by omega), if_pos (show (j : Int) < (L.length : Int) by omega), if_pos (Int.natCast_nonneg _), wrn hj' hl, e, Option.bind_some, z3_b]
    rw [← List.getElem_cons_drop hj', List.map_cons, scan1, ← rd_in hj']
    by_cases c : cx (v3 (rd L (i : Int))) (v3 (rd L (j : Int))) = z3
    · rw [if_pos c]
      simp only [if_pos c]
      exact ih (j + 1) r (by omega) (by omega) hr
    · rw [if_neg c]
      simp only [if_neg c]
      have e2 : (if r < 2 then 2 else r) = 2 := by split <;> omega
      have k1 := rank_l14 hL hl hi hj' (r := 2) (L.length - (j + 1)) (j + 1) rfl (by omega)
      have k2 : ∀ {g : Nat → Nat → spec_l4Rank.B14 → Option spec_l4Rank.B8} {v : spec_l4Rank.B8}, (Lv (fun k n => g k n (if hasD (v3 (rd L (i : Int))) (v3 (rd L (j : Int))) ((L.drop (j + 1)).map v3) = true then .inl ((3, ()), ()) else .inr ((L, 2, (i : Int), (j : Int), ()), ()))) v) →
          Lv (fun k n => (spec_l4Rank.l14 k k L 2 (i : Int) (j : Int) ((j + 1 : Nat) : Int)).bind (g k n)) v := fun h => Lv.bind k1.ev h
      have k3 : (if r < 2 then (2 : Int) else r) = 2 := e2
      rw [e2]
      by_cases rr : r < 2
      · simp only [if_pos rr]
        refine k2 ?_
        by_cases hd' : hasD (v3 (rd L (i : Int))) (v3 (rd L (j : Int))) ((L.drop (j + 1)).map v3) = true
        · rw [if_pos hd', if_pos hd', if_pos rfl]; exact .now fun _ _ => rfl
        · rw [if_neg hd', if_neg hd']
          simp only [wrn hj' hl]
          exact ih (j + 1) 2 (by omega) (by omega) (.inr rfl)
      · have r2 : r = 2 := by omega
        subst r2
        simp only [if_neg rr]
        refine k2 ?_
        by_cases hd' : hasD (v3 (rd L (i : Int))) (v3 (rd L (j : Int))) ((L.drop (j + 1)).map v3) = true
        · rw [if_pos hd', if_pos hd', if_pos rfl]; exact .now fun _ _ => rfl
        · rw [if_neg hd', if_neg hd']
          simp only [wrn hj' hl]
          exact ih (j + 1) 2 (by omega) (by omega) (.inr rfl)
theorem rank_l3 {L : List S4} (hL : ∀ p ∈ L, okp p = true) (hl : L.length ≤ 2097152) : ∀ (d i : Nat) (r : Int), L.length - i = d → i ≤ L.length → r = 0 ∨ r = 1 ∨ r = 2 →
    Lv (fun k n => spec_l4Rank.l3 k n L r (i : Int)) (if scan0 r ((L.drop i).map v3) = 3 then .inl ((3, ()), ()) else .inr ((scan0 r ((L.drop i).map v3), ()), ())) := by
  intro d
  induction d with
  | zero =>
    intro i r hd hi hr
    refine Lv.step (g := fun k n => spec_l4Rank.s3 k (spec_l4Rank.l3 k n) L r (i : Int)) ?_ (fun _ _ => rfl)
    simp only [spec_l4Rank.s3, decide_eq_true_eq, if_neg (show ¬ (i : Int) < (L.length : Int) by omega)]
    rw [List.drop_eq_nil_of_le (by omega), List.map_nil, scan0, if_neg (by omega)]
    exact .now fun _ _ => rfl
  | succ d ih =>
    intro i r hd hi hr
    have hi' : i < L.length := by omega
    have nz : (!(((rd L (i : Int)).a == 0) && (((rd L (i : Int)).b == 0) && (((rd L (i : Int)).c == 0) && ((rd L (i : Int)).d == 0))))) = true := by
      have h := (okp_iff.mp (by rw [rd_in hi']; exact hL _ (List.getElem_mem _) : okp (rd L (i : Int)) = true)).2.2.2.2.1
      simp only [Bool.not_eq_true', Bool.and_eq_false_iff, beq_eq_false_iff_ne]
      omega
    refine Lv.step (g := fun k n => spec_l4Rank.s3 k (spec_l4Rank.l3 k n) L r (i : Int)) ?_ (fun _ _ => rfl)
    simp only [spec_l4Rank.s3, decide_eq_true_eq, if_pos (show (i : Int) < (L.length : Int) by omega), if_pos (Int.natCast_nonneg _), wrn hi' hl, nz, if_true, eq_iff]
    rw [← List.getElem_cons_drop hi', List.map_cons, scan0, ← rd_in hi']
    have key : ∀ (r1 : Int), r1 = 1 ∨ r1 = 2 → Lv (fun k n => (spec_l4Rank.l8 k k L r1 (i : Int) ((i + 1 : Nat) : Int)).bind fun | .inl r7 => (some (.inl ((r7.1.1, ()), (())))) | .inr x8 => (spec_l4Rank.l3 k n x8.1.1 x8.1.2.1 (W (x8.1.2.2.1 + 1))))
        (if (if scan1 (v3 (rd L (i : Int))) r1 ((L.drop (i + 1)).map v3) = 3 then 3 else scan0 (scan1 (v3 (rd L (i : Int))) r1 ((L.drop (i + 1)).map v3)) ((L.drop (i + 1)).map v3)) = 3 then .inl ((3, ()), ()) else .inr ((if scan1 (v3 (rd L (i : Int))) r1 ((L.drop (i + 1)).map v3) = 3 then 3 else scan0 (scan1 (v3 (rd L (i : Int))) r1 ((L.drop (i + 1)).map v3)) ((L.drop (i + 1)).map v3), ()), ())) := fun r1 h1 => by
      refine Lv.bind (rank_l8 hL hl hi' (L.length - (i + 1)) (i + 1) r1 rfl (by omega) h1).ev ?_
      have h3 := scan1_3 (p := v3 (rd L (i : Int))) (l := (L.drop (i + 1)).map v3) h1
      generalize scan1 (v3 (rd L (i : Int))) r1 ((L.drop (i + 1)).map v3) = u at h3 ⊢
      by_cases c : u = 3
      · simp only [if_pos c, if_true]; exact .now fun _ _ => rfl
      · simp only [if_neg c, wrn hi' hl]
        exact ih (i + 1) u (by omega) (by omega) (by omega)
    by_cases c : r = 0
    · simp only [if_pos c]; exact key 1 (.inl rfl)
    · simp only [if_neg c]; exact key r (by omega)
def rkV (L : List S4) : Int := scan0 0 (L.map v3)
theorem l4Rank_ev {L : List S4} (hL : ∀ p ∈ L, okp p = true) (hl : L.length ≤ 2097152) : Ev (fun k => spec_l4Rank.f k L) (rkV L) := by
  unfold spec_l4Rank.f
  have h := rank_l3 hL hl L.length 0 0 (by omega) (by omega) (.inl rfl)
  rw [List.drop_zero] at h
  refine Ev.bind h.ev ?_
  unfold rkV
  by_cases c : scan0 0 (L.map v3) = 3
  · rw [if_pos c, c]; exact .now fun _ => rfl
  · rw [if_neg c]; exact .now fun _ => rfl
def z40 : S4 := ⟨0, 0, 0, 0⟩
def tk (p : S4) : S4 := if okp p = true then p else z40
theorem taken_ev (p : S4) : Ev (fun k => impl_taken.f k p) (tk p) := by
  unfold impl_taken.f tk
  refine Ev.bind (impl_PlaneOk_ev p) ?_
  cases okp p <;> exact .now fun _ => rfl
theorem tk_ok {p : S4} (h : okp p = true) : tk p = p := if_pos h
theorem z3_bd : Bd3 z3 := by unfold Bd3 z3; simp
theorem greedy_l4 {L : List S4} (hL : ∀ p ∈ L, okp p = true) (hl : L.length ≤ 2097152) : ∀ (d i : Nat) (rk : Int) (r0 r1 : S3), L.length - i = d → i ≤ L.length → rk = 0 ∨ rk = 1 ∨ rk = 2 → Bd3 r0 → Bd3 r1 →
    Lv (fun k n => impl_Rank.l4 k n rk L (L.length : Int) (i : Int) (r0.x, r0.y, r0.z, r1.x, r1.y, r1.z, ())) (if greedy rk r0 r1 ((L.drop i).map v3) = 3 then .inl ((3, ()), ()) else .inr ((greedy rk r0 r1 ((L.drop i).map v3), ()), ())) := by
  intro d
  induction d with
  | zero =>
    intro i rk r0 r1 hd hi hr b0 b1
    refine Lv.step (g := fun k n => impl_Rank.s4 k (impl_Rank.l4 k n) rk L (L.length : Int) (i : Int) (r0.x, r0.y, r0.z, r1.x, r1.y, r1.z, ())) ?_ (fun _ _ => rfl)
    rw [List.drop_eq_nil_of_le (by omega), List.map_nil, greedy, if_neg (by omega)]
    refine .now fun k n => ?_
    simp only [impl_Rank.s4, decide_eq_true_eq, if_neg (show ¬ (i : Int) < (L.length : Int) by omega)]
  | succ d ih =>
    intro i rk r0 r1 hd hi hr b0 b1
    have hi' : i < L.length := by omega
    have hp : okp (rd L (i : Int)) = true := by rw [rd_in hi']; exact hL _ (List.getElem_mem _)
    have bv := (okp_bd4 hp).1
    refine Lv.step (g := fun k n => impl_Rank.s4 k (impl_Rank.l4 k n) rk L (L.length : Int) (i : Int) (r0.x, r0.y, r0.z, r1.x, r1.y, r1.z, ())) ?_ (fun _ _ => rfl)
    rw [← List.getElem_cons_drop hi', List.map_cons, ← rd_in hi']
    unfold impl_Rank.s4
    simp only [decide_eq_true_eq, if_pos (show (i : Int) < (L.length : Int) by omega), if_pos (Int.natCast_nonneg _), wrn hi' hl, normal_f, Option.bind_some, eq_iff, z3_iff]
    refine Lv.bind (taken_ev (rd L (i : Int))) ?_
    rw [tk_ok hp]
    generalize v3 (rd L (i : Int)) = v at bv ⊢
    have ec : ∀ k, impl_crossOf.f k ⟨r0.x, r0.y, r0.z⟩ v = some (cx r0 v) := fun k => crossOf_f k b0 bv
    have ed : ∀ k, impl_det.f k ⟨r0.x, r0.y, r0.z⟩ ⟨r1.x, r1.y, r1.z⟩ v = some (dt r0 r1 v) := fun k => det_f k b0 b1 bv
    simp only [ec, ed, Option.bind_some, ne_iff]
    rw [greedy]
    rcases hr with rfl | rfl | rfl
    · by_cases c : v = z3
      · subst c
        simp only [not_true_eq_false, if_false, show ¬ ((0 : Int) = 1) by decide, show ¬ ((0 : Int) = 2) by decide, if_true, ne_eq, and_false, false_and]
        exact ih (i + 1) 0 r0 r1 (by omega) (by omega) (.inl rfl) b0 b1
      · simp only [c, not_false_eq_true, if_true, ne_eq, and_self]
        exact ih (i + 1) 1 v r1 (by omega) (by omega) (.inr (.inl rfl)) bv b1
    · by_cases c : cx r0 v = z3
      · simp only [c, not_true_eq_false, if_false, show ¬ ((1 : Int) = 0) by decide, show ¬ ((1 : Int) = 2) by decide, if_true, ne_eq, and_false, false_and]
        exact ih (i + 1) 1 r0 r1 (by omega) (by omega) (.inr (.inl rfl)) b0 b1
      · simp only [c, not_false_eq_true, if_true, ne_eq, and_self, if_false, show ¬ ((1 : Int) = 0) by decide, false_and]
        exact ih (i + 1) 2 r0 v (by omega) (by omega) (.inr (.inr rfl)) b0 bv
    · by_cases c : dt r0 r1 v = 0
      · simp only [c, not_true_eq_false, if_false, show ¬ ((2 : Int) = 0) by decide, show ¬ ((2 : Int) = 1) by decide, if_true, ne_eq, and_false, false_and]
        exact ih (i + 1) 2 r0 r1 (by omega) (by omega) (.inr (.inr rfl)) b0 b1
      · simp only [c, not_false_eq_true, if_true, ne_eq, and_self, if_false, show ¬ ((2 : Int) = 0) by decide, show ¬ ((2 : Int) = 1) by decide, false_and]
        exact .now fun _ _ => rfl
theorem greedy_rkV {L : List S4} (hL : ∀ p ∈ L, okp p = true) : greedy 0 z3 z3 (L.map v3) = rkV L := by
  have r1 := scan0_rank (l := L.map v3) (fun p hp => by
    obtain ⟨q, hq, rfl⟩ := List.mem_map.mp hp; exact v3_nz (hL q hq))
  have r2 := greedy_is (L.map v3) 0 z3 z3 [] (.inl ⟨rfl, fun p h => by cases h⟩)
  rw [List.nil_append] at r2
  exact r2.unique r1
theorem Rank_ev {L : List S4} (hL : ∀ p ∈ L, okp p = true) (hl : L.length ≤ 2097152) : Ev (fun k => impl_Rank.f k L) (rkV L) := by
  unfold impl_Rank.f
  have h := greedy_l4 hL hl L.length 0 0 z3 z3 (by omega) (by omega) (.inl rfl) z3_bd z3_bd
  rw [List.drop_zero, greedy_rkV hL] at h
  refine Ev.bind h.ev ?_
  by_cases c : rkV L = 3
  · rw [if_pos c, c]; exact .now fun _ => rfl
  · rw [if_neg c]; exact .now fun _ => rfl
theorem rkV_is {L : List S4} (hL : ∀ p ∈ L, okp p = true) : RankIs (L.map v3) (rkV L) := scan0_rank (l := L.map v3) (fun p hp => by
    obtain ⟨q, hq, rfl⟩ := List.mem_map.mp hp; exact v3_nz (hL q hq))
end Rk
set_option linter.unusedSimpArgs false
set_option linter.unusedVariables false
namespace Rk
def ng (v : S3) : S3 := ⟨-v.x, -v.y, -v.z⟩
def wy (v : S3) (L : List S4) : Bool := L.all (fun p => decide (0 ≤ ip (v3 p) v))
theorem ip_ng (u v : S3) : ip u (ng v) = -ip u v := by simp only [ip, ng, Int.mul_neg]; omega
theorem ng_ng (v : S3) : ng (ng v) = v := by simp [ng]
theorem cx_ng (u v : S3) : cx v u = ng (cx u v) := by
  rw [S3_ext]; simp only [cx, ng]; refine ⟨?_, ?_, ?_⟩ <;> grind
theorem ng_z {v : S3} : ng v = z3 ↔ v = z3 := by simp only [S3_ext, ng, z3]; omega
theorem ng_b {v : S3} (h : B6 v) : B6 (ng v) := by simp only [B6, ng] at *; omega
theorem ip_v3_bd {p : S4} {v : S3} (hp : Bd3 (v3 p)) (hv : B6 v) : -750000000 ≤ ip (v3 p) v ∧ ip (v3 p) v ≤ 750000000 := by
  have m1 := mul_bd hp.1 hv.1; have m2 := mul_bd hp.2.1 hv.2.1; have m3 := mul_bd hp.2.2 hv.2.2
  simp only [ip]; omega
def tv (t : Int) (v : S3) : S3 := if t = 1 then v else ng v
theorem wy_drop {L : List S4} {v : S3} {i : Nat} (h : i < L.length) : wy v (L.drop i) = (decide (0 ≤ ip (v3 (rd L (i : Int))) v) && wy v (L.drop (i + 1))) := by
  rw [← List.getElem_cons_drop h, ← rd_in h]; rfl
theorem way_l2 {L : List S4} (hL : ∀ p ∈ L, okp p = true) (hl : L.length ≤ 2097152) {v : S3} (hv : B6 v) {t : Int} (ht : t = 1 ∨ t = -1) : ∀ (d i : Nat), L.length - i = d → i ≤ L.length →
    Lv (fun k n => spec_l7Way.l2 k n L t (i : Int) v) (if wy (tv t v) (L.drop i) = true then .inr ((), ()) else .inl ((false, ()), ())) := by
  intro d
  induction d with
  | zero =>
    intro i hd hi
    refine Lv.step (g := fun k n => spec_l7Way.s2 k (spec_l7Way.l2 k n) L t (i : Int) v) ?_ (fun _ _ => rfl)
    simp only [spec_l7Way.s2, decide_eq_true_eq, if_neg (show ¬ (i : Int) < (L.length : Int) by omega)]
    rw [List.drop_eq_nil_of_le (by omega)]
    exact .now fun _ _ => rfl
  | succ d ih =>
    intro i hd hi
    have hi' : i < L.length := by omega
    have b := ip_v3_bd (rdB hL i).1 hv
    have e : W (t * (W ((W ((W ((rd L (i : Int)).a * v.x)) + (W ((rd L (i : Int)).b * v.y)))) + (W ((rd L (i : Int)).c * v.z))))) = ip (v3 (rd L (i : Int))) (tv t v) := by
      simp only [W_add_l, W_add_r]
      have e1 : (rd L (i : Int)).a * v.x + (rd L (i : Int)).b * v.y + (rd L (i : Int)).c * v.z = ip (v3 (rd L (i : Int))) v := rfl
      rw [e1, W_id (x := ip (v3 (rd L (i : Int))) v) (by omega) (by omega)]
      rcases ht with rfl | rfl
      · rw [Int.one_mul, W_id (by omega) (by omega)]; rfl
      · rw [Int.neg_one_mul, W_id (by omega) (by omega), tv, if_neg (by decide), ip_ng]
    refine Lv.step (g := fun k n => spec_l7Way.s2 k (spec_l7Way.l2 k n) L t (i : Int) v) ?_ (fun _ _ => rfl)
    simp only [spec_l7Way.s2, decide_eq_true_eq, if_pos (show (i : Int) < (L.length : Int) by omega), if_pos (Int.natCast_nonneg _), wrn hi' hl, e]
    rw [wy_drop hi']
    by_cases c : ip (v3 (rd L (i : Int))) (tv t v) < 0
    · rw [decide_eq_false (show ¬ 0 ≤ ip (v3 (rd L (i : Int))) (tv t v) by omega), Bool.false_and, if_neg (by decide)]
      simp only [if_pos c]
      exact .now fun _ _ => rfl
    · rw [decide_eq_true (show 0 ≤ ip (v3 (rd L (i : Int))) (tv t v) by omega), Bool.true_and]
      simp only [if_neg c]
      exact ih (i + 1) (by omega) (by omega)
theorem way_ev {L : List S4} (hL : ∀ p ∈ L, okp p = true) (hl : L.length ≤ 2097152) {v : S3} (hv : B6 v) {t : Int} (ht : t = 1 ∨ t = -1) : Ev (fun k => spec_l7Way.f k L v t) (wy (tv t v) L) := by
  have h := way_l2 hL hl hv ht L.length 0 (by omega) (by omega)
  rw [List.drop_zero] at h
  unfold spec_l7Way.f
  refine Ev.bind h.ev ?_
  cases wy (tv t v) L
  · exact .now fun _ => rfl
  · exact .now fun _ => rfl
theorem goesOn_l2 {L : List S4} (hL : ∀ p ∈ L, okp p = true) (hl : L.length ≤ 2097152) {v : S3} (hv : B6 v) : ∀ (d i : Nat), L.length - i = d → i ≤ L.length →
    Lv (fun k n => impl_goesOn.l2 k n L (L.length : Int) (i : Int) v) (if wy v (L.drop i) = true then .inr ((), ()) else .inl ((false, ()), ())) := by
  intro d
  induction d with
  | zero =>
    intro i hd hi
    refine Lv.step (g := fun k n => impl_goesOn.s2 k (impl_goesOn.l2 k n) L (L.length : Int) (i : Int) v) ?_ (fun _ _ => rfl)
    simp only [impl_goesOn.s2, decide_eq_true_eq, if_neg (show ¬ (i : Int) < (L.length : Int) by omega)]
    rw [List.drop_eq_nil_of_le (by omega)]
    exact .now fun _ _ => rfl
  | succ d ih =>
    intro i hd hi
    have hi' : i < L.length := by omega
    have b := ip_v3_bd (rdB hL i).1 hv
    have e : ∀ k, impl_dot.f k (v3 (rd L (i : Int))) v = some (ip (v3 (rd L (i : Int))) v) := fun k => dot_f k (by omega)
    refine Lv.step (g := fun k n => impl_goesOn.s2 k (impl_goesOn.l2 k n) L (L.length : Int) (i : Int) v) ?_ (fun _ _ => rfl)
    simp only [impl_goesOn.s2, decide_eq_true_eq, if_pos (show (i : Int) < (L.length : Int) by omega), if_pos (Int.natCast_nonneg _), wrn hi' hl, normal_f, Option.bind_some, e]
    rw [wy_drop hi']
    by_cases c : ip (v3 (rd L (i : Int))) v < 0
    · rw [decide_eq_false (show ¬ 0 ≤ ip (v3 (rd L (i : Int))) v by omega), Bool.false_and, if_neg (by decide)]
      simp only [if_pos c]
      exact .now fun _ _ => rfl
    · rw [decide_eq_true (show 0 ≤ ip (v3 (rd L (i : Int))) v by omega), Bool.true_and]
      simp only [if_neg c]
      exact ih (i + 1) (by omega) (by omega)
theorem goesOn_ev {L : List S4} (hL : ∀ p ∈ L, okp p = true) (hl : L.length ≤ 2097152) {v : S3} (hv : B6 v) : Ev (fun k => impl_goesOn.f k L v) (wy v L) := by
  have h := goesOn_l2 hL hl hv L.length 0 (by omega) (by omega)
  rw [List.drop_zero] at h
  unfold impl_goesOn.f
  refine Ev.bind h.ev ?_
  cases wy v L
  · exact .now fun _ => rfl
  · exact .now fun _ => rfl
def bp (L : List S4) (u w : S3) : Bool := decide (cx u w ≠ z3) && (wy (cx u w) L || wy (ng (cx u w)) L)
theorem bp_swap (L : List S4) (u w : S3) : bp L u w = bp L w u := by
  unfold bp
  rw [cx_ng w u, ng_ng, Bool.or_comm]
  congr 1
  rw [decide_eq_decide]
  exact not_congr ng_z
def bI (L : List S4) (i j : Nat) : Bool := bp L (v3 (rd L (i : Int))) (v3 (rd L (j : Int)))
def bJ (L T : List S4) (q : S4) (j : Nat) : Bool := bp L (v3 q) (v3 (rd T (j : Int)))
theorem bdd_l7 {L : List S4} (hL : ∀ p ∈ L, okp p = true) (hl : L.length ≤ 2097152) {i : Nat} (hi : i < L.length) : ∀ (d j : Nat), L.length - j = d → j ≤ L.length →
    Lv (fun k n => spec_l7Bounded.l7 k n L (i : Int) (j : Int)) (if anyF (bI L i) d j = true then .inl ((false, ()), ()) else .inr ((L, (i : Int), ()), ())) := by
  intro d
  induction d with
  | zero =>
    intro j hd hj
    refine Lv.step (g := fun k n => spec_l7Bounded.s7 k (spec_l7Bounded.l7 k n) L (i : Int) (j : Int)) ?_ (fun _ _ => rfl)
    simp only [spec_l7Bounded.s7, decide_eq_true_eq, if_neg (show ¬ (j : Int) < (L.length : Int) by omega)]
    exact .now fun _ _ => rfl
  | succ d ih =>
    intro j hd hj
    have hj' : j < L.length := by omega
    have e : ∀ k, spec_l4Cross.f k (rd L (i : Int)) (rd L (j : Int)) = some (cx (v3 (rd L (i : Int))) (v3 (rd L (j : Int)))) := fun k => l4Cross_f k (rdB hL i).1 (rdB hL j).1
    have hv := cx_bd (rdB hL i).1 (rdB hL j).1
    have ih' := ih (j + 1) (by omega) (by omega)
    refine Lv.step (g := fun k n => spec_l7Bounded.s7 k (spec_l7Bounded.l7 k n) L (i : Int) (j : Int)) ?_ (fun _ _ => rfl)
    simp only [spec_l7Bounded.s7, decide_eq_true_eq, if_pos (show (i : Int) < (L.length : Int) by omega), if_pos (show (j : Int) < (L.length : Int) by omega), if_pos (Int.natCast_nonneg _), wrn hj' hl, e, Option.bind_some, z3_iff]
    have w1 := way_ev hL hl hv (t := 1) (.inl rfl)
    have w2 := way_ev hL hl hv (t := -1) (.inr rfl)
    rw [anyF, ite_or, show bI L i j = (decide (cx (v3 (rd L (i : Int))) (v3 (rd L (j : Int))) ≠ z3) && (wy (cx (v3 (rd L (i : Int))) (v3 (rd L (j : Int)))) L || wy (ng (cx (v3 (rd L (i : Int))) (v3 (rd L (j : Int))))) L)) from rfl]
    generalize cx (v3 (rd L (i : Int))) (v3 (rd L (j : Int))) = x at w1 w2 ⊢
    by_cases c : x = z3
    · rw [decide_eq_false (show ¬ x ≠ z3 by simp [c]), Bool.false_and, if_neg (by decide)]
      simp only [c, not_true_eq_false, if_false]
      exact ih'
    · rw [decide_eq_true (show x ≠ z3 from c), Bool.true_and, ite_or]
      simp only [c, not_false_eq_true, if_true]
      exact or_lv w1 fun _ => or_lv w2 fun _ => ih'
theorem bdd_l4 {L : List S4} (hL : ∀ p ∈ L, okp p = true) (hl : L.length ≤ 2097152) : ∀ (d i : Nat), L.length - i = d → i ≤ L.length →
    Lv (fun k n => spec_l7Bounded.l4 k n L (i : Int)) (if anyF (fun i => anyF (bI L i) (L.length - (i + 1)) (i + 1)) d i = true then .inl ((false, ()), ()) else .inr ((), ())) := by
  intro d
  induction d with
  | zero =>
    intro i hd hi
    refine Lv.step (g := fun k n => spec_l7Bounded.s4 k (spec_l7Bounded.l4 k n) L (i : Int)) ?_ (fun _ _ => rfl)
    simp only [spec_l7Bounded.s4, decide_eq_true_eq, if_neg (show ¬ (i : Int) < (L.length : Int) by omega)]
    exact .now fun _ _ => rfl
  | succ d ih =>
    intro i hd hi
    have hi' : i < L.length := by omega
    refine Lv.step (g := fun k n => spec_l7Bounded.s4 k (spec_l7Bounded.l4 k n) L (i : Int)) ?_ (fun _ _ => rfl)
    simp only [spec_l7Bounded.s4, decide_eq_true_eq, if_pos (show (i : Int) < (L.length : Int) by omega), wrn hi' hl]
    refine Lv.bind (bdd_l7 hL hl hi' (L.length - (i + 1)) (i + 1) rfl (by omega)).ev ?_
    rw [anyF, ite_or]
    cases c : anyF (bI L i) (L.length - (i + 1)) (i + 1)
    · simp only [Bool.false_eq_true, if_false, wrn hi' hl]
      exact ih (i + 1) (by omega) (by omega)
    · simp only [if_true]
      exact .now fun _ _ => rfl
theorem bounded_l7 {L T : List S4} {q : S4} (hL : ∀ p ∈ L, okp p = true) (hT : ∀ p ∈ T, okp p = true) (hq : Bd4 q) (hl : L.length ≤ 2097152) (hT' : T.length ≤ 2097152) {u v : Int} : ∀ (d j : Nat), T.length - j = d → j ≤ T.length →
    Lv (fun k n => impl_bounded.l7 k n L L u v T (T.length : Int) (j : Int) q) (if anyF (bJ L T q) d j = true then .inl ((false, ()), ()) else .inr ((L, L, u, v, ()), ())) := by
  intro d
  induction d with
  | zero =>
    intro j hd hj
    refine Lv.step (g := fun k n => impl_bounded.s7 k (impl_bounded.l7 k n) L L u v T (T.length : Int) (j : Int) q) ?_ (fun _ _ => rfl)
    simp only [impl_bounded.s7, decide_eq_true_eq, if_neg (show ¬ (j : Int) < (T.length : Int) by omega)]
    exact .now fun _ _ => rfl
  | succ d ih =>
    intro j hd hj
    have hj' : j < T.length := by omega
    have e : ∀ k, impl_crossOf.f k (v3 q) (v3 (rd T (j : Int))) = some (cx (v3 q) (v3 (rd T (j : Int)))) := fun k => crossOf_f k hq.1 (rdB hT j).1
    have hv := cx_bd hq.1 (rdB hT j).1
    have ih' := ih (j + 1) (by omega) (by omega)
    refine Lv.step (g := fun k n => impl_bounded.s7 k (impl_bounded.l7 k n) L L u v T (T.length : Int) (j : Int) q) ?_ (fun _ _ => rfl)
    simp only [impl_bounded.s7, decide_eq_true_eq, if_pos (show (j : Int) < (T.length : Int) by omega), if_pos (Int.natCast_nonneg _), wrn hj' hT', normal_f, e, Option.bind_some, z3_b]
    have w1 := goesOn_ev hL hl hv
    have w2 := goesOn_ev hL hl (ng_b hv)
    rw [anyF, ite_or, show bJ L T q j = (decide (cx (v3 q) (v3 (rd T (j : Int))) ≠ z3) && (wy (cx (v3 q) (v3 (rd T (j : Int)))) L || wy (ng (cx (v3 q) (v3 (rd T (j : Int))))) L)) from rfl]
    generalize cx (v3 q) (v3 (rd T (j : Int))) = x at hv w1 w2 ⊢
    have hn : (⟨W (0 - x.x), W (0 - x.y), W (0 - x.z)⟩ : S3) = ng x := by
      have hv' := hv
      simp only [B6] at hv'
      rw [W_id (x := 0 - x.x) (by omega) (by omega), W_id (x := 0 - x.y) (by omega) (by omega), W_id (x := 0 - x.z) (by omega) (by omega)]
      simp [ng]
    by_cases c : x = z3
    · rw [decide_eq_false (show ¬ x ≠ z3 by simp [c]), Bool.false_and, if_neg (by decide)]
      simp only [c, if_true]
      exact ih'
    · rw [decide_eq_true (show x ≠ z3 from c), Bool.true_and, ite_or]
      simp only [if_neg c, hn]
      exact or_lv w1 fun _ => or_lv w2 fun _ => ih'
theorem bounded_l4 {L : List S4} (hL : ∀ p ∈ L, okp p = true) (hl : L.length ≤ 2097152) : ∀ (d i : Nat), L.length - i = d → i ≤ L.length →
    Lv (fun k n => impl_bounded.l4 k n L L (L.length : Int) (i : Int)) (if anyF (fun i => anyF (bJ L (L.take i) (rd L (i : Int))) i 0) d i = true then .inl ((false, ()), ()) else .inr ((), ())) := by
  intro d
  induction d with
  | zero =>
    intro i hd hi
    refine Lv.step (g := fun k n => impl_bounded.s4 k (impl_bounded.l4 k n) L L (L.length : Int) (i : Int)) ?_ (fun _ _ => rfl)
    simp only [impl_bounded.s4, decide_eq_true_eq, if_neg (show ¬ (i : Int) < (L.length : Int) by omega)]
    exact .now fun _ _ => rfl
  | succ d ih =>
    intro i hd hi
    have hi' : i < L.length := by omega
    have lt : (L.take i).length = i := by rw [List.length_take]; omega
    refine Lv.step (g := fun k n => impl_bounded.s4 k (impl_bounded.l4 k n) L L (L.length : Int) (i : Int)) ?_ (fun _ _ => rfl)
    simp only [impl_bounded.s4, decide_eq_true_eq, if_pos (show (i : Int) < (L.length : Int) by omega), if_pos (show (i : Int) ≤ (L.length : Int) by omega), if_pos (Int.natCast_nonneg _), Int.toNat_natCast]
    refine Lv.bind (bounded_l7 (T := L.take i) (q := rd L (i : Int)) (u := (L.length : Int)) (v := (i : Int)) hL (take_ok hL i) (rdB hL i) hl (by omega) i 0 (by omega) (by omega)).ev ?_
    rw [anyF, ite_or]
    cases c : anyF (bJ L (L.take i) (rd L (i : Int))) i 0
    · simp only [Bool.false_eq_true, if_false, wrn hi' hl]
      exact ih (i + 1) (by omega) (by omega)
    · simp only [if_true]
      exact .now fun _ _ => rfl
theorem bI_bJ {L : List S4} : anyF (fun i => anyF (bI L i) (L.length - (i + 1)) (i + 1)) L.length 0 = anyF (fun i => anyF (bJ L (L.take i) (rd L (i : Int))) i 0) L.length 0 := by
  rw [Bool.eq_iff_iff]
  simp only [anyF_iff, bI, bJ]
  constructor
  · rintro ⟨i, _, h1, j, h2, h3, h⟩
    exact ⟨j, by omega, by omega, i, by omega, by omega, by rw [rd_take (by omega), bp_swap]; exact h⟩
  · rintro ⟨i, _, h1, j, _, h2, h⟩
    rw [rd_take (by omega), bp_swap] at h
    exact ⟨j, by omega, by omega, i, by omega, by omega, h⟩
def bddV (L : List S4) : Bool := if rkV L < 3 then false else !anyF (fun i => anyF (bI L i) (L.length - (i + 1)) (i + 1)) L.length 0
theorem l7Bounded_ev {L : List S4} (hL : ∀ p ∈ L, okp p = true) (hl : L.length ≤ 2097152) : Ev (fun k => spec_l7Bounded.f k L) (bddV L) := by
  unfold spec_l7Bounded.f bddV
  refine Ev.bind (l4Rank_ev hL hl) ?_
  by_cases c : rkV L < 3
  · simp only [if_pos c, decide_eq_true_eq]; exact .now fun _ => rfl
  · simp only [if_neg c, decide_eq_true_eq]
    refine Ev.bind (bdd_l4 hL hl L.length 0 (by omega) (by omega)).ev ?_
    cases anyF (fun i => anyF (bI L i) (L.length - (i + 1)) (i + 1)) L.length 0
    · exact .now fun _ => rfl
    · exact .now fun _ => rfl
theorem bounded_ev {L : List S4} (hL : ∀ p ∈ L, okp p = true) (hl : L.length ≤ 2097152) : Ev (fun k => impl_bounded.f k L) (bddV L) := by
  unfold impl_bounded.f bddV
  refine Ev.bind (Rank_ev hL hl) ?_
  by_cases c : rkV L < 3
  · simp only [if_pos c, decide_eq_true_eq]; exact .now fun _ => rfl
  · simp only [if_neg c, decide_eq_true_eq]
    rw [bI_bJ]
    refine Ev.bind (bounded_l4 hL hl L.length 0 (by omega) (by omega)).ev ?_
    cases anyF (fun i => anyF (bJ L (L.take i) (rd L (i : Int))) i 0) L.length 0
    · exact .now fun _ => rfl
    · exact .now fun _ => rfl
end Rk
set_option linter.unusedSimpArgs false
set_option linter.unusedVariables false
namespace Rk
theorem opV_ok {L : List S4} (h : opV L = true) : (∀ p ∈ L, okp p = true) ∧ L.length ≤ 24 := by
  unfold opV at h
  rw [Bool.and_eq_true, Bool.and_eq_true, decide_eq_true_eq] at h
  exact ⟨fun p hp => List.all_eq_true.1 h.1.1 p hp, h.1.2⟩
theorem Bounded_ev {L : List S4} (hl : L.length ≤ 2097152) : Ev (fun k => impl_Bounded.f k L) (opV L && bddV L) := by
  unfold impl_Bounded.f
  refine Ev.bind (iOpen_ev hl) ?_
  cases h : opV L
  · exact .now fun _ => rfl
  · simp only [if_true]
    exact Ev.bind (bounded_ev (opV_ok h).1 hl) (.now fun _ => rfl)
theorem sBounded_ev {L : List S4} (hl : L.length ≤ 2097152) : Ev (fun k => spec_Bounded.f k L) (opV L && bddV L) := by
  unfold spec_Bounded.f
  refine Ev.bind (sOpen_ev hl) ?_
  cases h : opV L
  · exact .now fun _ => rfl
  · simp only [if_true]
    exact Ev.bind (l7Bounded_ev (opV_ok h).1 hl) (.now fun _ => rfl)
theorem wrN {α : Type} {L : List α} {c : Nat} (h : c < L.length) (hl : L.length ≤ 4611686018427387903) : W ((c : Int) + 1) = ((c + 1 : Nat) : Int) := by rw [W_id (by omega) (by omega)]; omega
def onF (s t : S4) (p : S4) : Bool := decide (sd p s = 0) && decide (sd p t = 0)
def onL (s t : S4) (L : List S4) : List S4 := L.filter (onF s t)
theorem onL_ok {L : List S4} (hL : ∀ p ∈ L, okp p = true) (s t : S4) : ∀ p ∈ onL s t L, okp p = true := fun p hp => hL p (List.mem_filter.mp hp).1
theorem onL_len (L : List S4) (s t : S4) : (onL s t L).length ≤ L.length := List.length_filter_le _ _
theorem onL_drop {L : List S4} {s t : S4} {i : Nat} (h : i < L.length) : onL s t (L.drop i) = (if onF s t (rd L (i : Int)) = true then [rd L (i : Int)] else []) ++ onL s t (L.drop (i + 1)) := by
  rw [← List.getElem_cons_drop h, ← rd_in h]
  unfold onL
  rw [List.filter_cons]
  split <;> rfl
theorem isEdge_l3 {L : List S4} (hl : L.length ≤ 2097152) {s t : S4} : ∀ (d i : Nat) (o : List S4), L.length - i = d → i ≤ L.length → o.length ≤ i →
    Lv (fun k n => impl_isEdge.l3 k n L (L.length : Int) (i : Int) s t o) (((), ()), (o ++ onL s t (L.drop i), ())) := by
  intro d
  induction d with
  | zero =>
    intro i o hd hi ho
    refine Lv.step (g := fun k n => impl_isEdge.s3 k (impl_isEdge.l3 k n) L (L.length : Int) (i : Int) s t o) ?_ (fun _ _ => rfl)
    simp only [impl_isEdge.s3, decide_eq_true_eq, if_neg (show ¬ (i : Int) < (L.length : Int) by omega)]
    rw [List.drop_eq_nil_of_le (by omega), show onL s t [] = [] from rfl, List.append_nil]
    exact .now fun _ _ => rfl
  | succ d ih =>
    intro i o hd hi ho
    have hi' : i < L.length := by omega
    have l1 : lt47 (o.length + ([rd L (i : Int)] : List S4).length) = true := lt47_ok (by rw [List.length_singleton]; omega)
    refine Lv.step (g := fun k n => impl_isEdge.s3 k (impl_isEdge.l3 k n) L (L.length : Int) (i : Int) s t o) ?_ (fun _ _ => rfl)
    simp only [impl_isEdge.s3, decide_eq_true_eq, if_pos (show (i : Int) < (L.length : Int) by omega), if_pos (Int.natCast_nonneg _), wrn hi' hl, sideAt_f, Option.bind_some, eq_iff, l1, if_true]
    rw [onL_drop hi']
    unfold onF
    by_cases c1 : sd (rd L (i : Int)) s = 0
    · by_cases c2 : sd (rd L (i : Int)) t = 0
      · simp only [c1, c2, decide_true, Bool.and_self, if_true]
        have := ih (i + 1) (o ++ [rd L (i : Int)]) (by omega) (by omega) (by simp; omega)
        rw [List.append_assoc] at this
        exact this
      · simp only [c1, c2, decide_true, decide_false, Bool.and_false, Bool.false_eq_true, if_true, if_false, List.nil_append]
        exact ih (i + 1) o (by omega) (by omega) (by omega)
    · simp only [c1, decide_false, Bool.false_and, Bool.false_eq_true, if_false, List.nil_append]
      exact ih (i + 1) o (by omega) (by omega) (by omega)
def edgeV (L : List S4) (s t : S4) : Bool := decide (rkV (onL s t L) ≥ 2)
theorem isEdge_ev {L : List S4} (hL : ∀ p ∈ L, okp p = true) (hl : L.length ≤ 2097152) (s t : S4) : Ev (fun k => impl_isEdge.f k L s t) (edgeV L s t) := by
  unfold impl_isEdge.f
  have h := isEdge_l3 hl (s := s) (t := t) L.length 0 [] (by omega) (by omega) (by simp)
  rw [List.drop_zero, List.nil_append] at h
  exact h.ev.bind (Ev.bind (Rank_ev (onL_ok hL s t) (Nat.le_trans (onL_len L s t) hl)) (.now fun _ => rfl))
def edJ (L V : List S4) (i : Nat) : Nat → Nat → List I2
  | 0, _ => []
  | d + 1, j => (if edgeV L (rd V (i : Int)) (rd V (j : Int)) = true then [⟨(i : Int), (j : Int)⟩] else []) ++ edJ L V i d (j + 1)
def edI (L V : List S4) : Nat → Nat → List I2
  | 0, _ => []
  | d + 1, i => edJ L V i (V.length - (i + 1)) (i + 1) ++ edI L V d (i + 1)
theorem edJ_len (L V : List S4) (i : Nat) : ∀ d j, (edJ L V i d j).length ≤ d
  | 0, _ => Nat.le_refl _
  | d + 1, j => by
    have := edJ_len L V i d (j + 1)
    unfold edJ
    rw [List.length_append]
    split <;> simp <;> omega
theorem edI_len (L V : List S4) : ∀ d i, (edI L V d i).length ≤ d * V.length
  | 0, _ => by simp [edI]
  | d + 1, i => by
    have h1 := edI_len L V d (i + 1)
    have h2 := edJ_len L V i (V.length - (i + 1)) (i + 1)
    unfold edI
    rw [List.length_append, Nat.add_mul]
    omega
section
variable {L V : List S4} (hL : ∀ p ∈ L, okp p = true) (hl : L.length ≤ 2097152) (hV : V.length ≤ 20000)
include hL hl hV
theorem edges_l9 {i : Nat} (hi : i < V.length) {u : List S4} {a b : Int} : ∀ (d j : Nat) (o : List I2), V.length - j = d → j ≤ V.length → o.length + d ≤ 1000000000 →
    Lv (fun k n => impl_EdgesOf.l9 k n L V (i : Int) (j : Int) u a b (rd V (i : Int)) o) ((L, V, (), u, a, b, ()), (o ++ edJ L V i d j, ())) := by
  intro d
  induction d with
  | zero =>
    intro j o hd hj ho
    refine Lv.step (g := fun k n => impl_EdgesOf.s9 k (impl_EdgesOf.l9 k n) L V (i : Int) (j : Int) u a b (rd V (i : Int)) o) ?_ (fun _ _ => rfl)
    simp only [impl_EdgesOf.s9, decide_eq_true_eq, if_neg (show ¬ (j : Int) < (V.length : Int) by omega), edJ, List.append_nil]
    exact .now fun _ _ => rfl
  | succ d ih =>
    intro j o hd hj ho
    have hj' : j < V.length := by omega
    have l1 : lt47 (o.length + ([(⟨(i : Int), (j : Int)⟩ : I2)] : List I2).length) = true := lt47_ok (by rw [List.length_singleton]; omega)
    refine Lv.step (g := fun k n => impl_EdgesOf.s9 k (impl_EdgesOf.l9 k n) L V (i : Int) (j : Int) u a b (rd V (i : Int)) o) ?_ (fun _ _ => rfl)
    simp only [impl_EdgesOf.s9, decide_eq_true_eq, if_pos (show (j : Int) < (V.length : Int) by omega), if_pos (Int.natCast_nonneg _), wrn hj' (show V.length ≤ 2097152 by omega), l1, if_true]
    refine Lv.bind (isEdge_ev hL hl (rd V (i : Int)) (rd V (j : Int))) ?_
    rw [edJ]
    cases c : edgeV L (rd V (i : Int)) (rd V (j : Int))
    · simp only [Bool.false_eq_true, if_false, List.nil_append]
      exact ih (j + 1) o (by omega) (by omega) (by omega)
    · simp only [if_true]
      have := ih (j + 1) (o ++ [⟨(i : Int), (j : Int)⟩]) (by omega) (by omega) (by simp; omega)
      rw [List.append_assoc] at this
      exact this
theorem edges_l6 : ∀ (d i : Nat) (o : List I2), V.length - i = d → i ≤ V.length → o.length ≤ i * 20000 →
    Lv (fun k n => impl_EdgesOf.l6 k n L V V (V.length : Int) (i : Int) o) (((), ()), (o ++ edI L V d i, ())) := by
  intro d
  induction d with
  | zero =>
    intro i o hd hi ho
    refine Lv.step (g := fun k n => impl_EdgesOf.s6 k (impl_EdgesOf.l6 k n) L V V (V.length : Int) (i : Int) o) ?_ (fun _ _ => rfl)
    simp only [impl_EdgesOf.s6, decide_eq_true_eq, if_neg (show ¬ (i : Int) < (V.length : Int) by omega), edI, List.append_nil]
    exact .now fun _ _ => rfl
  | succ d ih =>
    intro i o hd hi ho
    have hi' : i < V.length := by omega
    refine Lv.step (g := fun k n => impl_EdgesOf.s6 k (impl_EdgesOf.l6 k n) L V V (V.length : Int) (i : Int) o) ?_ (fun _ _ => rfl)
    simp only [impl_EdgesOf.s6, decide_eq_true_eq, if_pos (show (i : Int) < (V.length : Int) by omega), if_pos (Int.natCast_nonneg _), wrn hi' (show V.length ≤ 2097152 by omega)]
    refine Lv.bind (edges_l9 hL hl hV hi' (u := V) (a := (V.length : Int)) (b := (i : Int)) (V.length - (i + 1)) (i + 1) o rfl (by omega) (by omega)).ev ?_
    simp only [wrn hi' (show V.length ≤ 2097152 by omega)]
    have hj := edJ_len L V i (V.length - (i + 1)) (i + 1)
    have := ih (i + 1) (o ++ edJ L V i (V.length - (i + 1)) (i + 1)) (by omega) (by omega) (by rw [List.length_append]; omega)
    rw [List.append_assoc] at this
    exact this
end
def mk2 (j : Nat) : I2 := ⟨1 + 2 * (j : Int), 1 + 2 * (j : Int) + 1⟩
end Rk
open Rk
end Go.Proofs.YtalkkenkeilmpaaGreat.Q
