/- The rank of a list of planes, by both programs. -/
import Derived.Test.YtlkcpldohlemcaaP9
namespace Go.Proofs.Ytlkcpldohlemcaa.Q
open Go Go.RowKit Go.Proofs Go.Proofs.Ytlkcpldohlemcaa.Ev Go.Proofs.Ytlkcpldohlemcaa.G
set_option linter.unusedSimpArgs false
set_option linter.unusedVariables false
namespace Rk

theorem z3_b (c : S3) : ((c.x == 0) && ((c.y == 0) && (c.z == 0))) = true ↔ c = z3 := by
  rw [S3_ext]; simp [z3]
theorem dt_of_cx {p q : S3} (h : cx p q = z3) (r : S3) : dt p q r = 0 := by
  obtain ⟨h1, h2, h3⟩ := cx_zero.mp h
  obtain ⟨a, b, c⟩ := p; obtain ⟨d, e, f⟩ := q; obtain ⟨g, i, j⟩ := r
  simp only [dt, ip, cx] at *
  grind
theorem dt_self_r (p q : S3) : dt p q q = 0 := by simp only [dt, ip, cx]; grind
theorem dt_self_l (p q : S3) : dt p p q = 0 := by simp only [dt, ip, cx]; grind
theorem dt_self_o (p q : S3) : dt p q p = 0 := by simp only [dt, ip, cx]; grind
theorem dt_swap (p q r : S3) : dt p r q = -dt p q r := by simp only [dt, ip, cx]; grind
theorem dt_rot (p q r : S3) : dt q r p = dt p q r := by simp only [dt, ip, cx]; grind
theorem cx_swap {p q : S3} : cx q p = z3 ↔ cx p q = z3 := by rw [cx_zero, cx_zero]; constructor <;> (rintro ⟨h1, h2, h3⟩; refine ⟨?_, ?_, ?_⟩ <;> grind)
theorem cx_self (p : S3) : cx p p = z3 := by rw [cx_zero]; refine ⟨?_, ?_, ?_⟩ <;> grind
theorem cx_z_l (q : S3) : cx z3 q = z3 := by simp [cx, z3]
/-- two rows along a third that is not zero -/
theorem cx_trans {r a b : S3} (hr : r ≠ z3) (ha : cx r a = z3) (hb : cx r b = z3) : cx a b = z3 := by
  obtain ⟨x, y, z⟩ := r; obtain ⟨a1, a2, a3⟩ := a; obtain ⟨b1, b2, b3⟩ := b
  rw [cx_zero] at ha hb ⊢
  simp only at ha hb ⊢
  obtain ⟨h1, h2, h3⟩ := ha
  obtain ⟨g1, g2, g3⟩ := hb
  have hz : x ≠ 0 ∨ y ≠ 0 ∨ z ≠ 0 := by
    by_cases hx : x = 0 <;> by_cases hy : y = 0 <;> by_cases hz : z = 0 <;> simp_all [z3]
  have key : ∀ t : Int, t ≠ 0 → ∀ u v : Int, t * u = t * v → u = v := fun t ht u v h => Int.eq_of_mul_eq_mul_left ht h
  rcases hz with h | h | h
  · refine ⟨key x h _ _ ?_, key x h _ _ ?_, key x h _ _ ?_⟩ <;> grind
  · refine ⟨key y h _ _ ?_, key y h _ _ ?_, key y h _ _ ?_⟩ <;> grind
  · refine ⟨key z h _ _ ?_, key z h _ _ ?_, key z h _ _ ?_⟩ <;> grind
/-- three rows in one plane -/
theorem dt_plane {n a b c : S3} (hn : n ≠ z3) (ha : n.x * a.x + n.y * a.y + n.z * a.z = 0) (hb : n.x * b.x + n.y * b.y + n.z * b.z = 0) (hc : n.x * c.x + n.y * c.y + n.z * c.z = 0) : dt a b c = 0 := by
  obtain ⟨x, y, z⟩ := n; obtain ⟨a1, a2, a3⟩ := a; obtain ⟨b1, b2, b3⟩ := b; obtain ⟨c1, c2, c3⟩ := c
  simp only [dt, ip, cx] at *
  have hz : x ≠ 0 ∨ y ≠ 0 ∨ z ≠ 0 := by
    by_cases hx : x = 0 <;> by_cases hy : y = 0 <;> by_cases hz : z = 0 <;> simp_all [z3]
  have key : ∀ t : Int, t ≠ 0 → ∀ u : Int, t * u = 0 → u = 0 := fun t ht u h => (Int.mul_eq_zero.mp h).resolve_left ht
  rcases hz with h | h | h
  · refine key x h _ ?_
    have e : x * (a1 * (b2 * c3 - b3 * c2) + a2 * (b3 * c1 - b1 * c3) + a3 * (b1 * c2 - b2 * c1)) = (x * a1 + y * a2 + z * a3) * (b2 * c3 - b3 * c2) + (x * b1 + y * b2 + z * b3) * (c2 * a3 - c3 * a2) + (x * c1 + y * c2 + z * c3) * (a2 * b3 - a3 * b2) := by grind
    rw [e, ha, hb, hc]; simp
  · refine key y h _ ?_
    have e : y * (a1 * (b2 * c3 - b3 * c2) + a2 * (b3 * c1 - b1 * c3) + a3 * (b1 * c2 - b2 * c1)) = (x * a1 + y * a2 + z * a3) * (b3 * c1 - b1 * c3) + (x * b1 + y * b2 + z * b3) * (c3 * a1 - c1 * a3) + (x * c1 + y * c2 + z * c3) * (a3 * b1 - a1 * b3) := by grind
    rw [e, ha, hb, hc]; simp
  · refine key z h _ ?_
    have e : z * (a1 * (b2 * c3 - b3 * c2) + a2 * (b3 * c1 - b1 * c3) + a3 * (b1 * c2 - b2 * c1)) = (x * a1 + y * a2 + z * a3) * (b1 * c2 - b2 * c1) + (x * b1 + y * b2 + z * b3) * (c1 * a2 - c2 * a1) + (x * c1 + y * c2 + z * c3) * (a1 * b2 - a2 * b1) := by grind
    rw [e, ha, hb, hc]; simp
theorem dt_cx (p q r : S3) : dt p q r = (cx p q).x * r.x + (cx p q).y * r.y + (cx p q).z * r.z := by simp only [dt, ip, cx]; grind
theorem dt_span {p q a b c : S3} (h : cx p q ≠ z3) (ha : dt p q a = 0) (hb : dt p q b = 0) (hc : dt p q c = 0) : dt a b c = 0 := by
  rw [dt_cx] at ha hb hc
  exact dt_plane h ha hb hc
/-- what the rank is -/
def RankIs (L : List S3) (v : Int) : Prop :=
  (v = 3 ∧ ∃ p ∈ L, ∃ q ∈ L, ∃ r ∈ L, dt p q r ≠ 0) ∨ (v = 2 ∧ (∀ p ∈ L, ∀ q ∈ L, ∀ r ∈ L, dt p q r = 0) ∧ ∃ p ∈ L, ∃ q ∈ L, cx p q ≠ z3) ∨
  (v = 1 ∧ (∀ p ∈ L, ∀ q ∈ L, cx p q = z3) ∧ ∃ p ∈ L, p ≠ z3) ∨ (v = 0 ∧ ∀ p ∈ L, p = z3)
theorem RankIs.unique {L : List S3} {v u : Int} (h : RankIs L v) (g : RankIs L u) : v = u := by
  rcases h with ⟨rfl, p, hp, q, hq, r, hr, h⟩ | ⟨rfl, h1, p, hp, q, hq, h2⟩ | ⟨rfl, h1, p, hp, h2⟩ | ⟨rfl, h⟩ <;> rcases g with ⟨rfl, p', hp', q', hq', r', hr', g⟩ | ⟨rfl, g1, p', hp', q', hq', g2⟩ | ⟨rfl, g1, p', hp', g2⟩ | ⟨rfl, g⟩ <;> first
    | rfl
    | exact absurd (g1 p hp q hq r hr) h
    | exact absurd (dt_of_cx (g1 p hp q hq) r) h
    | (have := g p hp; subst this; exact absurd (dt_of_cx (cx_z_l q) r) h)
    | exact absurd (h1 p' hp' q' hq' r' hr') g
    | exact absurd (g1 p hp q hq) h2
    | (have := g p hp; subst this; exact absurd (cx_z_l q) h2)
    | exact absurd (dt_of_cx (h1 p' hp' q' hq') r') g
    | exact absurd (h1 p' hp' q' hq') g2
    | exact absurd (g p hp) h2
    | (have := h p' hp'; subst this; exact absurd (dt_of_cx (cx_z_l q') r') g)
    | (have := h p' hp'; subst this; exact absurd (cx_z_l q') g2)
    | exact absurd (h p' hp') g2
/-- rows that are zero count for nothing -/
theorem RankIs.strip {L M : List S3} {v : Int} (h1 : ∀ p ∈ L, p ∈ M) (h2 : ∀ p ∈ M, p ≠ z3 → p ∈ L) (h : RankIs L v) : RankIs M v := by
  have zt1 : ∀ q r, dt z3 q r = 0 := fun q r => dt_of_cx (cx_z_l q) r
  have zt2 : ∀ p r, dt p z3 r = 0 := fun p r => dt_of_cx (cx_swap.mp (cx_z_l p)) r
  have zt3 : ∀ p q, dt p q z3 = 0 := fun p q => by rw [← dt_rot, ← dt_rot]; exact zt1 _ _
  rcases h with ⟨rfl, p, hp, q, hq, r, hr, h⟩ | ⟨rfl, g1, p, hp, q, hq, g2⟩ | ⟨rfl, g1, p, hp, g2⟩ | ⟨rfl, h⟩
  · exact .inl ⟨rfl, p, h1 p hp, q, h1 q hq, r, h1 r hr, h⟩
  · refine .inr (.inl ⟨rfl, fun p hp q hq r hr => ?_, p, h1 p hp, q, h1 q hq, g2⟩)
    by_cases ep : p = z3
    · subst ep; exact zt1 _ _
    by_cases eq : q = z3
    · subst eq; exact zt2 _ _
    by_cases er : r = z3
    · subst er; exact zt3 _ _
    exact g1 p (h2 p hp ep) q (h2 q hq eq) r (h2 r hr er)
  · refine .inr (.inr (.inl ⟨rfl, fun p hp q hq => ?_, p, h1 p hp, g2⟩))
    by_cases ep : p = z3
    · subst ep; exact cx_z_l _
    by_cases eq : q = z3
    · subst eq; exact cx_swap.mp (cx_z_l _)
    exact g1 p (h2 p hp ep) q (h2 q hq eq)
  · refine .inr (.inr (.inr ⟨rfl, fun p hp => ?_⟩))
    by_cases ep : p = z3
    · exact ep
    · exact h p (h2 p hp ep)
/-- the greedy walk -/
def greedy : Int → S3 → S3 → List S3 → Int
  | rk, _, _, [] => rk
  | rk, r0, r1, v :: vs => if rk = 0 ∧ v ≠ z3 then greedy 1 v r1 vs else if rk = 1 ∧ cx r0 v ≠ z3 then greedy 2 r0 v vs else if rk = 2 ∧ dt r0 r1 v ≠ 0 then 3 else greedy rk r0 r1 vs
def GInv (rk : Int) (r0 r1 : S3) (L : List S3) : Prop :=
  (rk = 0 ∧ ∀ p ∈ L, p = z3) ∨ (rk = 1 ∧ r0 ∈ L ∧ r0 ≠ z3 ∧ ∀ p ∈ L, cx r0 p = z3) ∨ (rk = 2 ∧ r0 ∈ L ∧ r1 ∈ L ∧ cx r0 r1 ≠ z3 ∧ ∀ p ∈ L, dt r0 r1 p = 0)
theorem greedy_is : ∀ (vs : List S3) (rk : Int) (r0 r1 : S3) (L : List S3), GInv rk r0 r1 L → RankIs (L ++ vs) (greedy rk r0 r1 vs)
  | [], rk, r0, r1, L, h => by
    simp only [greedy, List.append_nil]
    rcases h with ⟨rfl, h⟩ | ⟨rfl, h0, h1, h2⟩ | ⟨rfl, h0, h1, h2, h3⟩
    · exact .inr (.inr (.inr ⟨rfl, h⟩))
    · exact .inr (.inr (.inl ⟨rfl, fun p hp q hq => cx_trans h1 (h2 p hp) (h2 q hq), r0, h0, h1⟩))
    · exact .inr (.inl ⟨rfl, fun p hp q hq r hr => dt_span h2 (h3 p hp) (h3 q hq) (h3 r hr), r0, h0, r1, h1, h2⟩)
  | v :: vs, rk, r0, r1, L, h => by
    rw [show L ++ v :: vs = (L ++ [v]) ++ vs from by simp]
    have hv : v ∈ L ++ [v] := by simp
    have up : ∀ {p}, p ∈ L → p ∈ L ++ [v] := fun h => by simp [h]
    have cases_ : ∀ {Q : S3 → Prop}, (∀ p ∈ L, Q p) → Q v → ∀ p ∈ L ++ [v], Q p := fun h1 h2 p hp => by
      rcases List.mem_append.mp hp with hp | hp
      · exact h1 p hp
      · simp only [List.mem_singleton] at hp; subst hp; exact h2
    unfold greedy
    rcases h with ⟨rfl, h⟩ | ⟨rfl, h0, h1, h2⟩ | ⟨rfl, h0, h1, h2, h3⟩
    · by_cases ev : v = z3
      · rw [if_neg (by simp [ev]), if_neg (by simp), if_neg (by simp)]
        exact greedy_is vs 0 r0 r1 _ (.inl ⟨rfl, cases_ h ev⟩)
      · rw [if_pos ⟨rfl, ev⟩]
        exact greedy_is vs 1 v r1 _ (.inr (.inl ⟨rfl, hv, ev, cases_ (fun p hp => by rw [h p hp]; exact cx_swap.mp (cx_z_l v)) (cx_self v)⟩))
    · rw [if_neg (by simp)]
      by_cases ev : cx r0 v = z3
      · rw [if_neg (by simp [ev]), if_neg (by simp)]
        exact greedy_is vs 1 r0 r1 _ (.inr (.inl ⟨rfl, up h0, h1, cases_ h2 ev⟩))
      · rw [if_pos ⟨rfl, ev⟩]
        exact greedy_is vs 2 r0 v _ (.inr (.inr ⟨rfl, up h0, hv, ev, cases_ (fun p hp => dt_swap r0 p v ▸ by rw [dt_of_cx (h2 p hp)]; rfl) (dt_self_r r0 v)⟩))
    · rw [if_neg (by simp), if_neg (by simp)]
      by_cases ev : dt r0 r1 v = 0
      · rw [if_neg (by simp [ev])]
        exact greedy_is vs 2 r0 r1 _ (.inr (.inr ⟨rfl, up h0, up h1, h2, cases_ h3 ev⟩))
      · rw [if_pos ⟨rfl, ev⟩]
        exact .inl ⟨rfl, r0, by simp [h0], r1, by simp [h1], v, by simp, ev⟩
/-- the three loops -/
def hasD (p q : S3) : List S3 → Bool
  | [] => false
  | r :: l => if dt p q r = 0 then hasD p q l else true
def scan1 (p : S3) : Int → List S3 → Int
  | r, [] => r
  | r, q :: l => if cx p q = z3 then scan1 p r l else if hasD p q l = true then 3 else scan1 p (if r < 2 then 2 else r) l
def scan0 : Int → List S3 → Int
  | r, [] => r
  | r, p :: l => if scan1 p (if r = 0 then 1 else r) l = 3 then 3 else scan0 (scan1 p (if r = 0 then 1 else r) l) l
theorem hasD_t {p q : S3} : ∀ {l : List S3}, hasD p q l = true → ∃ r ∈ l, dt p q r ≠ 0
  | [], h => by simp [hasD] at h
  | x :: l, h => by
    unfold hasD at h
    split at h
    · obtain ⟨r, hr, h⟩ := hasD_t h; exact ⟨r, by simp [hr], h⟩
    · rename_i hx; exact ⟨x, by simp, hx⟩
theorem hasD_f {p q : S3} : ∀ {l : List S3}, ¬hasD p q l = true → ∀ r ∈ l, dt p q r = 0
  | [], _ => fun r h => by cases h
  | x :: l, h => by
    unfold hasD at h
    split at h
    · rename_i hx
      intro r hr
      rcases List.mem_cons.mp hr with rfl | hr
      · exact hx
      · exact hasD_f h r hr
    · simp at h
theorem scan1_is (p : S3) : ∀ (l : List S3) (r : Int), r = 1 ∨ r = 2 → (scan1 p r l = 3 ∧ ∃ a ∈ l, ∃ b ∈ l, dt p a b ≠ 0) ∨
    ((∀ a ∈ l, ∀ b ∈ l, dt p a b = 0) ∧ ((scan1 p r l = 2 ∧ (r = 2 ∨ ∃ a ∈ l, cx p a ≠ z3)) ∨ (scan1 p r l = 1 ∧ r = 1 ∧ ∀ a ∈ l, cx p a = z3)))
  | [], r, hr => by
    right
    refine ⟨fun a h => by (cases h), ?_⟩
    rcases hr with rfl | rfl
    · exact .inr ⟨rfl, rfl, fun a h => by cases h⟩
    · exact .inl ⟨rfl, .inl rfl⟩
  | q :: l, r, hr => by
    unfold scan1
    have ext : (∀ a ∈ l, ∀ b ∈ l, dt p a b = 0) → (∀ b ∈ l, dt p q b = 0) → ∀ a ∈ q :: l, ∀ b ∈ q :: l, dt p a b = 0 := fun h1 h2 a ha b hb => by
      rcases List.mem_cons.mp ha with rfl | ha' <;> rcases List.mem_cons.mp hb with rfl | hb'
      · exact dt_self_r _ _
      · exact h2 b hb'
      · rw [dt_swap, h2 a ha']; rfl
      · exact h1 a ha' b hb'
    by_cases c : cx p q = z3
    · rw [if_pos c]
      rcases scan1_is p l r hr with ⟨h, a, ha, b, hb, h2⟩ | ⟨h1, h2⟩
      · exact .inl ⟨h, a, by simp [ha], b, by simp [hb], h2⟩
      · refine .inr ⟨ext h1 (fun b _ => dt_of_cx c b), ?_⟩
        rcases h2 with ⟨h2, h3⟩ | ⟨h2, h3, h4⟩
        · refine .inl ⟨h2, ?_⟩
          rcases h3 with h3 | ⟨a, ha, h3⟩
          · exact .inl h3
          · exact .inr ⟨a, by simp [ha], h3⟩
        · refine .inr ⟨h2, h3, fun a ha => ?_⟩
          rcases List.mem_cons.mp ha with rfl | ha
          · exact c
          · exact h4 a ha
    · rw [if_neg c]
      by_cases d : hasD p q l = true
      · rw [if_pos d]
        obtain ⟨b, hb, h⟩ := hasD_t d
        exact .inl ⟨rfl, q, by simp, b, by simp [hb], h⟩
      · rw [if_neg d]
        have e : (if r < 2 then 2 else r) = 2 := by split <;> omega
        rw [e]
        rcases scan1_is p l 2 (.inr rfl) with ⟨h, a, ha, b, hb, h2⟩ | ⟨h1, h2⟩
        · exact .inl ⟨h, a, by simp [ha], b, by simp [hb], h2⟩
        · refine .inr ⟨ext h1 (hasD_f d), ?_⟩
          rcases h2 with ⟨h2, h3⟩ | ⟨h2, h3, h4⟩
          · exact .inl ⟨h2, .inr ⟨q, by simp, c⟩⟩
          · omega
theorem scan0_is : ∀ (l : List S3) (r : Int), r = 0 ∨ r = 1 ∨ r = 2 → (scan0 r l = 3 ∧ ∃ a ∈ l, ∃ b ∈ l, ∃ c ∈ l, dt a b c ≠ 0) ∨
    ((∀ a ∈ l, ∀ b ∈ l, ∀ c ∈ l, dt a b c = 0) ∧ ((scan0 r l = 2 ∧ (r = 2 ∨ ∃ a ∈ l, ∃ b ∈ l, cx a b ≠ z3)) ∨ ((∀ a ∈ l, ∀ b ∈ l, cx a b = z3) ∧ ((scan0 r l = 1 ∧ (r = 1 ∨ r = 0 ∧ l ≠ [])) ∨ (scan0 r l = 0 ∧ r = 0 ∧ l = [])))))
  | [], r, hr => by
    right
    refine ⟨fun a h => by (cases h), ?_⟩
    rcases hr with rfl | rfl | rfl
    · exact .inr ⟨fun a h => by (cases h), .inr ⟨rfl, rfl, rfl⟩⟩
    · exact .inr ⟨fun a h => by (cases h), .inl ⟨rfl, .inl rfl⟩⟩
    · exact .inl ⟨rfl, .inl rfl⟩
  | p :: l, r, hr => by
    unfold scan0
    have hr1 : (if r = 0 then 1 else r) = 1 ∨ (if r = 0 then 1 else r) = 2 := by split <;> omega
    have hr2 : (if r = 0 then 1 else r) = 2 → r = 2 := by split <;> omega
    have hr3 : (if r = 0 then 1 else r) = 1 → r = 1 ∨ r = 0 ∧ p :: l ≠ [] := by
      split
      · rename_i h; exact fun _ => .inr ⟨h, by simp⟩
      · exact fun h => .inl h
    generalize (if r = 0 then 1 else r) = r1 at *
    rcases scan1_is p l r1 hr1 with ⟨h, a, ha, b, hb, h2⟩ | ⟨h1, h2⟩
    · rw [if_pos h]
      exact .inl ⟨rfl, p, by simp, a, by simp [ha], b, by simp [hb], h2⟩
    · have ext : (∀ a ∈ l, ∀ b ∈ l, ∀ c ∈ l, dt a b c = 0) → ∀ a ∈ p :: l, ∀ b ∈ p :: l, ∀ c ∈ p :: l, dt a b c = 0 := fun g a ha b hb c hc => by
        rcases List.mem_cons.mp ha with rfl | ha' <;> rcases List.mem_cons.mp hb with rfl | hb' <;> rcases List.mem_cons.mp hc with rfl | hc'
        · exact dt_self_l _ _
        · exact dt_self_l _ _
        · exact dt_self_o _ _
        · exact h1 b hb' c hc'
        · exact dt_self_r _ _
        · have := h1 a ha' c hc'
          grind [dt, ip, cx]
        · have := h1 a ha' b hb'
          grind [dt, ip, cx]
        · exact g a ha' b hb' c hc'
      have n3 : scan1 p r1 l ≠ 3 := by rcases h2 with ⟨h2, _⟩ | ⟨h2, _⟩ <;> omega
      rw [if_neg n3]
      have hs : scan1 p r1 l = 0 ∨ scan1 p r1 l = 1 ∨ scan1 p r1 l = 2 := by rcases h2 with ⟨h2, _⟩ | ⟨h2, _⟩ <;> omega
      rcases scan0_is l (scan1 p r1 l) hs with ⟨g, a, ha, b, hb, c, hc, g2⟩ | ⟨g1, g2⟩
      · exact .inl ⟨g, a, by simp [ha], b, by simp [hb], c, by simp [hc], g2⟩
      · refine .inr ⟨ext g1, ?_⟩
        rcases g2 with ⟨g2, g3⟩ | ⟨g2, g3⟩
        · refine .inl ⟨g2, ?_⟩
          rcases g3 with g3 | ⟨a, ha, b, hb, g3⟩
          · rcases h2 with ⟨_, h3 | ⟨a, ha, h3⟩⟩ | ⟨h2, _⟩
            · exact .inl (hr2 h3)
            · exact .inr ⟨p, by simp, a, by simp [ha], h3⟩
            · omega
          · exact .inr ⟨a, by simp [ha], b, by simp [hb], g3⟩
        · rcases h2 with ⟨h2, h3⟩ | ⟨h2, h3, h4⟩
          · exfalso; rcases g3 with ⟨_, g | g⟩ | ⟨_, g, _⟩ <;> omega
          · refine .inr ⟨fun a ha b hb => ?_, .inl ⟨?_, hr3 h3⟩⟩
            · rcases List.mem_cons.mp ha with rfl | ha' <;> rcases List.mem_cons.mp hb with rfl | hb'
              · exact cx_self _
              · exact h4 b hb'
              · exact cx_swap.mp (h4 a ha')
              · exact g2 a ha' b hb'
            · rcases g3 with ⟨g, _⟩ | ⟨_, g, _⟩ <;> omega
theorem scan0_rank {l : List S3} (hz : ∀ p ∈ l, p ≠ z3) : RankIs l (scan0 0 l) := by
  rcases scan0_is l 0 (.inl rfl) with ⟨g, a, ha, b, hb, c, hc, g2⟩ | ⟨g1, ⟨g2, g3⟩ | ⟨g2, ⟨g3, g4⟩ | ⟨g3, _, g4⟩⟩⟩
  · exact .inl ⟨g, a, ha, b, hb, c, hc, g2⟩
  · rcases g3 with g3 | ⟨a, ha, b, hb, g3⟩
    · omega
    · exact .inr (.inl ⟨g2, g1, a, ha, b, hb, g3⟩)
  · refine .inr (.inr (.inl ⟨g3, g2, ?_⟩))
    cases l with
    | nil => rcases g4 with g4 | ⟨_, g4⟩ <;> first | omega | exact absurd rfl g4
    | cons p l => exact ⟨p, by simp, hz p (by simp)⟩
  · subst g4; exact .inr (.inr (.inr ⟨g3, fun p h => by cases h⟩))
theorem v3_nz {p : S4} (h : okp p = true) : v3 p ≠ z3 := by
  intro e
  have h5 := (okp_iff.mp h).2.2.2.2.1
  have e1 : p.a = 0 := congrArg S3.x e
  have e2 : p.b = 0 := congrArg S3.y e
  have e3 : p.c = 0 := congrArg S3.z e
  omega
theorem scan1_3 {p : S3} {l : List S3} {r : Int} (hr : r = 1 ∨ r = 2) : scan1 p r l = 1 ∨ scan1 p r l = 2 ∨ scan1 p r l = 3 := by
  rcases scan1_is p l r hr with ⟨h, _⟩ | ⟨_, ⟨h, _⟩ | ⟨h, _⟩⟩ <;> omega
theorem rank_l14 {L : List S4} (hL : ∀ p ∈ L, okp p = true) (hl : L.length ≤ 2097152) {i j : Nat} (hi : i < L.length) (hj : j < L.length) {r : Int} : ∀ (d c : Nat), L.length - c = d → c ≤ L.length →
    Lv (fun k n => spec_l4Rank.l14 k n L r (i : Int) (j : Int) (c : Int)) (if hasD (v3 (rd L (i : Int))) (v3 (rd L (j : Int))) ((L.drop c).map v3) = true then .inl ((3, ()), ()) else .inr ((L, r, (i : Int), (j : Int), ()), ())) := by
  intro d
  induction d with
  | zero =>
    intro c hd hc
    refine Lv.step (g := fun k n => spec_l4Rank.s14 k (spec_l4Rank.l14 k n) L r (i : Int) (j : Int) (c : Int)) ?_ (fun _ _ => rfl)
    simp only [spec_l4Rank.s14, decide_eq_true_eq, if_neg (show ¬ (c : Int) < (L.length : Int) by omega)]
    rw [List.drop_eq_nil_of_le (by omega)]
    exact .now fun _ _ => rfl
  | succ d ih =>
    intro c hd hc
    have hc' : c < L.length := by omega
    have e : ∀ k, spec_l4Det3.f k (rd L (i : Int)) (rd L (j : Int)) (rd L (c : Int)) = some (dt (v3 (rd L (i : Int))) (v3 (rd L (j : Int))) (v3 (rd L (c : Int)))) := fun k => l4Det3_f k (rdB hL i).1 (rdB hL j).1 (rdB hL c).1
    refine Lv.step (g := fun k n => spec_l4Rank.s14 k (spec_l4Rank.l14 k n) L r (i : Int) (j : Int) (c : Int)) ?_ (fun _ _ => rfl)
    simp only [spec_l4Rank.s14, decide_eq_true_eq, if_pos (show (c : Int) < (L.length : Int) by omega), if_pos (show (i : Int) < (L.length : Int) by omega), if_pos (show (j : Int) < (L.length : Int) by omega), if_pos (Int.natCast_nonneg _), wrn hc' hl, e, Option.bind_some, ne_iff]
    rw [← List.getElem_cons_drop hc', List.map_cons, hasD, ← rd_in hc']
    by_cases z : dt (v3 (rd L (i : Int))) (v3 (rd L (j : Int))) (v3 (rd L (c : Int))) = 0
    · rw [if_pos z]
      simp only [z, ne_eq, not_true_eq_false, if_false]
      exact ih (c + 1) (by omega) (by omega)
    · rw [if_neg z, if_pos rfl]
      simp only [ne_eq, z, not_false_eq_true, if_true]
      exact .now fun _ _ => rfl
theorem rank_l8 {L : List S4} (hL : ∀ p ∈ L, okp p = true) (hl : L.length ≤ 2097152) {i : Nat} (hi : i < L.length) : ∀ (d j : Nat) (r : Int), L.length - j = d → j ≤ L.length → r = 1 ∨ r = 2 →
    Lv (fun k n => spec_l4Rank.l8 k n L r (i : Int) (j : Int)) (if scan1 (v3 (rd L (i : Int))) r ((L.drop j).map v3) = 3 then .inl ((3, ()), ()) else .inr ((L, scan1 (v3 (rd L (i : Int))) r ((L.drop j).map v3), (i : Int), ()), ())) := by
  intro d
  induction d with
  | zero =>
    intro j r hd hj hr
    refine Lv.step (g := fun k n => spec_l4Rank.s8 k (spec_l4Rank.l8 k n) L r (i : Int) (j : Int)) ?_ (fun _ _ => rfl)
    simp only [spec_l4Rank.s8, decide_eq_true_eq, if_neg (show ¬ (j : Int) < (L.length : Int) by omega)]
    rw [List.drop_eq_nil_of_le (by omega), List.map_nil, scan1, if_neg (by omega)]
    exact .now fun _ _ => rfl
  | succ d ih =>
    intro j r hd hj hr
    have hj' : j < L.length := by omega
    have e : ∀ k, spec_l4Cross.f k (rd L (i : Int)) (rd L (j : Int)) = some (cx (v3 (rd L (i : Int))) (v3 (rd L (j : Int)))) := fun k => l4Cross_f k (rdB hL i).1 (rdB hL j).1
    refine Lv.step (g := fun k n => spec_l4Rank.s8 k (spec_l4Rank.l8 k n) L r (i : Int) (j : Int)) ?_ (fun _ _ => rfl)
    simp only [spec_l4Rank.s8, decide_eq_true_eq, if_pos (show (i : Int) < (L.length : Int) by omega), if_pos (show (j : Int) < (L.length : Int) by omega), if_pos (Int.natCast_nonneg _), wrn hj' hl, e, Option.bind_some, z3_b]
    rw [← List.getElem_cons_drop hj', List.map_cons, scan1, ← rd_in hj']
    by_cases c : cx (v3 (rd L (i : Int))) (v3 (rd L (j : Int))) = z3
    · rw [if_pos c]
      simp only [if_pos c]
      exact ih (j + 1) r (by omega) (by omega) hr
    · rw [if_neg c]
      simp only [if_neg c]
      have e2 : (if r < 2 then 2 else r) = 2 := by split <;> omega
      have k1 := rank_l14 hL hl hi hj' (r := 2) (L.length - (j + 1)) (j + 1) rfl (by omega)
      have k2 : ∀ {g : Nat → Nat → spec_l4Rank.B14 → Option spec_l4Rank.B8} {v : spec_l4Rank.B8}, (Lv (fun k n => g k n (if hasD (v3 (rd L (i : Int))) (v3 (rd L (j : Int))) ((L.drop (j + 1)).map v3) = true then .inl ((3, ()), ()) else .inr ((L, 2, (i : Int), (j : Int), ()), ()))) v) →
          Lv (fun k n => (spec_l4Rank.l14 k k L 2 (i : Int) (j : Int) ((j + 1 : Nat) : Int)).bind (g k n)) v := fun h => Lv.bind k1.ev h
      have k3 : (if r < 2 then (2 : Int) else r) = 2 := e2
      rw [e2]
      by_cases rr : r < 2
      · simp only [if_pos rr]
        refine k2 ?_
        by_cases hd' : hasD (v3 (rd L (i : Int))) (v3 (rd L (j : Int))) ((L.drop (j + 1)).map v3) = true
        · rw [if_pos hd', if_pos hd', if_pos rfl]; exact .now fun _ _ => rfl
        · rw [if_neg hd', if_neg hd']
          simp only [wrn hj' hl]
          exact ih (j + 1) 2 (by omega) (by omega) (.inr rfl)
      · have r2 : r = 2 := by omega
        subst r2
        simp only [if_neg rr]
        refine k2 ?_
        by_cases hd' : hasD (v3 (rd L (i : Int))) (v3 (rd L (j : Int))) ((L.drop (j + 1)).map v3) = true
        · rw [if_pos hd', if_pos hd', if_pos rfl]; exact .now fun _ _ => rfl
        · rw [if_neg hd', if_neg hd']
          simp only [wrn hj' hl]
          exact ih (j + 1) 2 (by omega) (by omega) (.inr rfl)
theorem rank_l3 {L : List S4} (hL : ∀ p ∈ L, okp p = true) (hl : L.length ≤ 2097152) : ∀ (d i : Nat) (r : Int), L.length - i = d → i ≤ L.length → r = 0 ∨ r = 1 ∨ r = 2 →
    Lv (fun k n => spec_l4Rank.l3 k n L r (i : Int)) (if scan0 r ((L.drop i).map v3) = 3 then .inl ((3, ()), ()) else .inr ((scan0 r ((L.drop i).map v3), ()), ())) := by
  intro d
  induction d with
  | zero =>
    intro i r hd hi hr
    refine Lv.step (g := fun k n => spec_l4Rank.s3 k (spec_l4Rank.l3 k n) L r (i : Int)) ?_ (fun _ _ => rfl)
    simp only [spec_l4Rank.s3, decide_eq_true_eq, if_neg (show ¬ (i : Int) < (L.length : Int) by omega)]
    rw [List.drop_eq_nil_of_le (by omega), List.map_nil, scan0, if_neg (by omega)]
    exact .now fun _ _ => rfl
  | succ d ih =>
    intro i r hd hi hr
    have hi' : i < L.length := by omega
    have nz : (!(((rd L (i : Int)).a == 0) && (((rd L (i : Int)).b == 0) && (((rd L (i : Int)).c == 0) && ((rd L (i : Int)).d == 0))))) = true := by
      have h := (okp_iff.mp (by rw [rd_in hi']; exact hL _ (List.getElem_mem _) : okp (rd L (i : Int)) = true)).2.2.2.2.1
      simp only [Bool.not_eq_true', Bool.and_eq_false_iff, beq_eq_false_iff_ne]
      omega
    refine Lv.step (g := fun k n => spec_l4Rank.s3 k (spec_l4Rank.l3 k n) L r (i : Int)) ?_ (fun _ _ => rfl)
    simp only [spec_l4Rank.s3, decide_eq_true_eq, if_pos (show (i : Int) < (L.length : Int) by omega), if_pos (Int.natCast_nonneg _), wrn hi' hl, nz, if_true, eq_iff]
    rw [← List.getElem_cons_drop hi', List.map_cons, scan0, ← rd_in hi']
    have key : ∀ (r1 : Int), r1 = 1 ∨ r1 = 2 → Lv (fun k n => (spec_l4Rank.l8 k k L r1 (i : Int) ((i + 1 : Nat) : Int)).bind fun | .inl r7 => (some (.inl ((r7.1.1, ()), (())))) | .inr x8 => (spec_l4Rank.l3 k n x8.1.1 x8.1.2.1 (W (x8.1.2.2.1 + 1))))
        (if (if scan1 (v3 (rd L (i : Int))) r1 ((L.drop (i + 1)).map v3) = 3 then 3 else scan0 (scan1 (v3 (rd L (i : Int))) r1 ((L.drop (i + 1)).map v3)) ((L.drop (i + 1)).map v3)) = 3 then .inl ((3, ()), ()) else .inr ((if scan1 (v3 (rd L (i : Int))) r1 ((L.drop (i + 1)).map v3) = 3 then 3 else scan0 (scan1 (v3 (rd L (i : Int))) r1 ((L.drop (i + 1)).map v3)) ((L.drop (i + 1)).map v3), ()), ())) := fun r1 h1 => by
      refine Lv.bind (rank_l8 hL hl hi' (L.length - (i + 1)) (i + 1) r1 rfl (by omega) h1).ev ?_
      have h3 := scan1_3 (p := v3 (rd L (i : Int))) (l := (L.drop (i + 1)).map v3) h1
      generalize scan1 (v3 (rd L (i : Int))) r1 ((L.drop (i + 1)).map v3) = u at h3 ⊢
      by_cases c : u = 3
      · simp only [if_pos c, if_true]; exact .now fun _ _ => rfl
      · simp only [if_neg c, wrn hi' hl]
        exact ih (i + 1) u (by omega) (by omega) (by omega)
    by_cases c : r = 0
    · simp only [if_pos c]; exact key 1 (.inl rfl)
    · simp only [if_neg c]; exact key r (by omega)
/-- the rank of a list -/
def rkV (L : List S4) : Int := scan0 0 (L.map v3)
theorem l4Rank_ev {L : List S4} (hL : ∀ p ∈ L, okp p = true) (hl : L.length ≤ 2097152) : Ev (fun k => spec_l4Rank.f k L) (rkV L) := by
  unfold spec_l4Rank.f
  have h := rank_l3 hL hl L.length 0 0 (by omega) (by omega) (.inl rfl)
  rw [List.drop_zero] at h
  refine Ev.bind h.ev ?_
  unfold rkV
  by_cases c : scan0 0 (L.map v3) = 3
  · rw [if_pos c, c]; exact .now fun _ => rfl
  · rw [if_neg c]; exact .now fun _ => rfl
def z40 : S4 := ⟨0, 0, 0, 0⟩
def tk (p : S4) : S4 := if okp p = true then p else z40
theorem taken_ev (p : S4) : Ev (fun k => impl_taken.f k p) (tk p) := by
  unfold impl_taken.f tk
  refine Ev.bind (impl_PlaneOk_ev p) ?_
  cases okp p <;> exact .now fun _ => rfl
theorem tk_ok {p : S4} (h : okp p = true) : tk p = p := if_pos h
theorem z3_bd : Bd3 z3 := by unfold Bd3 z3; simp
theorem greedy_l4 {L : List S4} (hL : ∀ p ∈ L, okp p = true) (hl : L.length ≤ 2097152) : ∀ (d i : Nat) (rk : Int) (r0 r1 : S3), L.length - i = d → i ≤ L.length → rk = 0 ∨ rk = 1 ∨ rk = 2 → Bd3 r0 → Bd3 r1 →
    Lv (fun k n => impl_Rank.l4 k n rk L (L.length : Int) (i : Int) (r0.x, r0.y, r0.z, r1.x, r1.y, r1.z, ())) (if greedy rk r0 r1 ((L.drop i).map v3) = 3 then .inl ((3, ()), ()) else .inr ((greedy rk r0 r1 ((L.drop i).map v3), ()), ())) := by
  intro d
  induction d with
  | zero =>
    intro i rk r0 r1 hd hi hr b0 b1
    refine Lv.step (g := fun k n => impl_Rank.s4 k (impl_Rank.l4 k n) rk L (L.length : Int) (i : Int) (r0.x, r0.y, r0.z, r1.x, r1.y, r1.z, ())) ?_ (fun _ _ => rfl)
    rw [List.drop_eq_nil_of_le (by omega), List.map_nil, greedy, if_neg (by omega)]
    refine .now fun k n => ?_
    simp only [impl_Rank.s4, decide_eq_true_eq, if_neg (show ¬ (i : Int) < (L.length : Int) by omega)]
  | succ d ih =>
    intro i rk r0 r1 hd hi hr b0 b1
    have hi' : i < L.length := by omega
    have hp : okp (rd L (i : Int)) = true := by rw [rd_in hi']; exact hL _ (List.getElem_mem _)
    have bv := (okp_bd4 hp).1
    refine Lv.step (g := fun k n => impl_Rank.s4 k (impl_Rank.l4 k n) rk L (L.length : Int) (i : Int) (r0.x, r0.y, r0.z, r1.x, r1.y, r1.z, ())) ?_ (fun _ _ => rfl)
    rw [← List.getElem_cons_drop hi', List.map_cons, ← rd_in hi']
    unfold impl_Rank.s4
    simp only [decide_eq_true_eq, if_pos (show (i : Int) < (L.length : Int) by omega), if_pos (Int.natCast_nonneg _), wrn hi' hl, normal_f, Option.bind_some, eq_iff, z3_iff]
    refine Lv.bind (taken_ev (rd L (i : Int))) ?_
    rw [tk_ok hp]
    generalize v3 (rd L (i : Int)) = v at bv ⊢
    have ec : ∀ k, impl_crossOf.f k ⟨r0.x, r0.y, r0.z⟩ v = some (cx r0 v) := fun k => crossOf_f k b0 bv
    have ed : ∀ k, impl_det.f k ⟨r0.x, r0.y, r0.z⟩ ⟨r1.x, r1.y, r1.z⟩ v = some (dt r0 r1 v) := fun k => det_f k b0 b1 bv
    simp only [ec, ed, Option.bind_some, ne_iff]
    rw [greedy]
    rcases hr with rfl | rfl | rfl
    · by_cases c : v = z3
      · subst c
        simp only [not_true_eq_false, if_false, show ¬ ((0 : Int) = 1) by decide, show ¬ ((0 : Int) = 2) by decide, if_true, ne_eq, and_false, false_and]
        exact ih (i + 1) 0 r0 r1 (by omega) (by omega) (.inl rfl) b0 b1
      · simp only [c, not_false_eq_true, if_true, ne_eq, and_self]
        exact ih (i + 1) 1 v r1 (by omega) (by omega) (.inr (.inl rfl)) bv b1
    · by_cases c : cx r0 v = z3
      · simp only [c, not_true_eq_false, if_false, show ¬ ((1 : Int) = 0) by decide, show ¬ ((1 : Int) = 2) by decide, if_true, ne_eq, and_false, false_and]
        exact ih (i + 1) 1 r0 r1 (by omega) (by omega) (.inr (.inl rfl)) b0 b1
      · simp only [c, not_false_eq_true, if_true, ne_eq, and_self, if_false, show ¬ ((1 : Int) = 0) by decide, false_and]
        exact ih (i + 1) 2 r0 v (by omega) (by omega) (.inr (.inr rfl)) b0 bv
    · by_cases c : dt r0 r1 v = 0
      · simp only [c, not_true_eq_false, if_false, show ¬ ((2 : Int) = 0) by decide, show ¬ ((2 : Int) = 1) by decide, if_true, ne_eq, and_false, false_and]
        exact ih (i + 1) 2 r0 r1 (by omega) (by omega) (.inr (.inr rfl)) b0 b1
      · simp only [c, not_false_eq_true, if_true, ne_eq, and_self, if_false, show ¬ ((2 : Int) = 0) by decide, show ¬ ((2 : Int) = 1) by decide, false_and]
        exact .now fun _ _ => rfl
theorem greedy_rkV {L : List S4} (hL : ∀ p ∈ L, okp p = true) : greedy 0 z3 z3 (L.map v3) = rkV L := by
  have r1 := scan0_rank (l := L.map v3) (fun p hp => by
    obtain ⟨q, hq, rfl⟩ := List.mem_map.mp hp; exact v3_nz (hL q hq))
  have r2 := greedy_is (L.map v3) 0 z3 z3 [] (.inl ⟨rfl, fun p h => by cases h⟩)
  rw [List.nil_append] at r2
  exact r2.unique r1
theorem Rank_ev {L : List S4} (hL : ∀ p ∈ L, okp p = true) (hl : L.length ≤ 2097152) : Ev (fun k => impl_Rank.f k L) (rkV L) := by
  unfold impl_Rank.f
  have h := greedy_l4 hL hl L.length 0 0 z3 z3 (by omega) (by omega) (.inl rfl) z3_bd z3_bd
  rw [List.drop_zero, greedy_rkV hL] at h
  refine Ev.bind h.ev ?_
  by_cases c : rkV L = 3
  · rw [if_pos c, c]; exact .now fun _ => rfl
  · rw [if_neg c]; exact .now fun _ => rfl
theorem rkV_is {L : List S4} (hL : ∀ p ∈ L, okp p = true) : RankIs (L.map v3) (rkV L) := scan0_rank (l := L.map v3) (fun p hp => by
    obtain ⟨q, hq, rfl⟩ := List.mem_map.mp hp; exact v3_nz (hL q hq))
end Rk
end Go.Proofs.Ytlkcpldohlemcaa.Q
