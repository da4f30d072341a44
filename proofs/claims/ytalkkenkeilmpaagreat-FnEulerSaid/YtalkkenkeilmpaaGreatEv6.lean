/- What the evaluator tells of one operation is what the model does: literals, slices made, appends, stores, cuts, calls. -/
import Derived.Test.YtalkkenkeilmpaaGreatEv5
namespace Go.Proofs.YtalkkenkeilmpaaGreat.Ev
open Go Go.RowKit
set_option linter.unusedVariables false
set_option linter.unusedSimpArgs false

theorem rof_app1 {gB : Nat → Option (Option Box)} {ro : Nat → Prop} {β : Nat → Option Blk} {bs bs' : Bxs} (b : Nat) (h : rof gB ro β bs b) : rof gB ro β (bs ++ bs') b :=
  h.imp id fun ⟨id, k, z, q, hm, r⟩ => ⟨id, k, z, q, List.mem_append_left _ hm, r⟩
theorem rof_app2 {gB : Nat → Option (Option Box)} {ro : Nat → Prop} {β : Nat → Option Blk} {bs bs' : Bxs} (b : Nat) (h : rof gB ro β bs' b) : rof gB ro β (bs ++ bs') b :=
  h.imp id fun ⟨id, k, z, q, hm, r⟩ => ⟨id, k, z, q, List.mem_append_right _ hm, r⟩

section
variable {w0 : Base} {N : Nat} {g : Nat → SV} {gB : Nat → Option (Option Box)} {a : Act} {w : World} {ro : Nat → Prop} {β : Nat → Option Blk}

theorem R0.parts (h : R0 w0 N g gB a w ro β) : ∀ (xs : List (Nat × Operand)) (l : List (Nat × AV)) (bs : Bxs), parts g gB xs = some (l, bs) → Frz gB bs ∧ l.length = xs.length ∧ PP w (rof gB ro β bs) (xs.map fun (i, x) => (i, a.eval x)) l
  | [], l, bs, he => by simp [Ev.parts] at he; obtain ⟨rfl, rfl⟩ := he; exact ⟨.nil _, rfl, trivial⟩
  | (i, x) :: xs, l, bs, he => by
    simp only [Ev.parts] at he
    split at he
    · rename_i y b1 hx
      split at he
      · rename_i l' b2 hl
        cases he
        obtain ⟨f1, r1⟩ := h.exF hx
        obtain ⟨f2, n2, r2⟩ := h.parts xs l' b2 hl
        exact ⟨f1.app f2, by simp [n2], rfl, r1.mono (fun b hb => rof_app1 b hb) (fun _ _ => rfl), r2.mono (fun b hb => rof_app2 b hb)⟩
      · cases he
    · cases he
end

section
variable {P : Program} {N : Nat} {g : Nat → SV} {gB : Nat → Option (Option Box)} {o : Oper} {u : Upd} {cx : Cx Upd}

theorem zero_pw {w : World} {ro : Nat → Prop} (z : Value) : PW w ro z.cells (z.cells.toList.map .v) := by
  refine ⟨by simp, fun i x y hx hy => ?_⟩
  simp only [List.getElem?_map, Array.getElem?_toList] at hy
  rw [hx] at hy; cases hy; exact .v x

theorem ok_build {t : TypeId} {ps : Array (Nat × Operand)} {z : Value} {l : List (Nat × AV)} {bs : Bxs} {place : Nat → Option (Nat × Nat)} {cs : List AV} (ho : o.op = .build t ps) (hz : zeroP P t = some z) (hp : parts g gB ps.toList = some (l, bs)) (hb : bplace P t = some place) (hf : fillA place (z.cells.toList.map .v) l = some cs) (hd : ∀ d, o.dst = some d → d < N) : Okk P N g gB o ⟨.p (mk cs), bs⟩ :=
  okV hd fun w0 a w ro β hR => by
    obtain ⟨f, n, r⟩ := hR.parts _ _ _ hp
    refine ⟨f, ?_⟩
    obtain ⟨cs', h1, h2⟩ := fill_ok _ _ _ _ _ r (zero_pw (w := w) (ro := rof gB ro β bs) z) hf
    have hbuilt : P.built t (ps.toList.map fun (i, x) => (i, a.eval x)) = some cs' := by
      unfold Program.built
      unfold zeroP at hz
      unfold bplace at hb
      split at hz
      · rename_i it hit
        simp only [hit]
        split at hb
        · rename_i fields hu
          split at hb
          · rename_i places hpl
            cases hb
            simp only [hu, hz, hpl]
            simpa using h1
          · cases hb
        · rename_i n e hu
          split at hb
          · rename_i ie hie
            cases hb
            simp only [hu, hz, hie]
            exact h1
          · cases hb
        · cases hb
      · cases hz
    refine ⟨.agg cs', ?_, rep_mk _ _ h2.1 h2.2⟩
    simp only [execOp, ho]
    refine run_val (α := Unit) (run_build w t _ cs' ?_)
    rw [← hbuilt]
    congr 1
    simp

theorem maxLen_ge {n : Nat} (h : n < 2199023255552) : n ≤ maxLen := by simp only [maxLen]; omega

theorem ok_buildSlice {t el : TypeId} {len : Nat} {ps : Array (Nat × Operand)} {d : Nat} {e : El} {l : List (Nat × AV)} {bs : Bxs} {xs : List e.T} (hop : o.op = .buildSlice t len ps) (ho : o.dst = some d) (hN : d < N) (hd : gB d = none)
    (ht : P.underlying t = some (.slice el)) (he : elI P el = some e) (hn : ps.toList.length = len) (h100 : len ≤ 100) (hp : parts g gB ps.toList = some (l, bs)) (hl : lits e 0 l = some xs) : Okk P N g gB o ⟨.osl d, (d, some (.row el e xs)) :: bs⟩ :=
  okN ho hN hd fun w0 a w ro β hR => by
    obtain ⟨f, n, r⟩ := hR.parts _ _ _ hp
    obtain ⟨i, z, hi, hz, hez, hsz, hby, hzc⟩ := elI_spec he
    have hzP : zeroP P el = some z := by simp [zeroP, hi, hz]
    have hez5 : e.z ≤ 6 := by cases e <;> simp [El.z]
    have hll : l.length = len := by rw [n, ← hn]
    refine ⟨f, ?_⟩
    have core : ∀ cs : Array Value, cs.size = len * e.z → ∃ cs', Instr.fill (fun i => some (i * e.z, e.z)) cs (ps.map fun (i, x) => (i, a.eval x)).toList = some cs' ∧ cs'.size = len * e.z ∧ xs.length = len ∧ ∀ q c, q < xs.length → c < e.z → ∃ x, cs'[q * e.z + c]? = some x ∧ Rep w (rof gB ro β bs) x (e.cell (xs.getD q default) c) := fun cs hcs => by
      have hps : (ps.map fun (i, x) => (i, a.eval x)).toList = ps.toList.map fun (i, x) => (i, a.eval x) := by simp
      rw [hps]
      obtain ⟨cs', h1, h2, _, h4, h5⟩ := fill_lits (w := w) (ro := rof gB ro β bs) l _ 0 cs xs hl r (by rw [Nat.zero_add, hll, hcs]; exact Nat.le_refl _)
      exact ⟨cs', h1, h2.trans hcs, h4.trans hll, fun q c hq hc => by have := h5 q c hq hc; rwa [Nat.zero_add] at this⟩
    obtain ⟨cs', hrun, hsize, hxl, hcells⟩ : ∃ cs', (Instr.buildSlice t len (ps.map fun (i, x) => (i, a.eval x))).run P w = .ok (.slice (some ⟨w.heap.size, 0, none⟩) len len) (w.alloc (.cells cs' el)) ∧ cs'.size = len * e.z ∧ xs.length = len ∧ ∀ q c, q < xs.length → c < e.z → ∃ x, cs'[q * e.z + c]? = some x ∧ Rep w (rof gB ro β bs) x (e.cell (xs.getD q default) c) := by
      unfold Instr.buildSlice
      rw [run_bind_ok (pr_under ht w)]
      simp only
      rw [run_bind_ok (pr_size (n := e.z) (by simp [szP, hi, hsz]) w)]
      have hle : ¬ len * e.z > 2 ^ 24 := by
        have : len * e.z ≤ 100 * 6 := Nat.mul_le_mul h100 hez5
        omega
      rw [if_neg hle]
      by_cases h0 : len * e.z = 0
      · obtain ⟨cs', h1, h2, h3, h4⟩ := core ((Array.range (len * e.z)).map ((#[] : Array Value)[· % (#[] : Array Value).size]!)) (by simp)
        refine ⟨cs', ?_, h2, h3, h4⟩
        simp only [h0, if_true]
        rw [h0] at h1
        simp only [Sem.run_bind, Sem.run_pure, Result.andThen_ok, h1, newRow, run_newObj_alloc]
      · obtain ⟨cs', h1, h2, h3, h4⟩ := core ((Array.range (len * e.z)).map (z.cells[· % z.cells.size]!)) (by simp)
        refine ⟨cs', ?_, h2, h3, h4⟩
        rw [if_neg h0]
        simp only [Sem.run_bind, pr_zero hzP w, Sem.run_pure, Result.andThen_ok, h1, newRow, run_newObj_alloc]
    refine ⟨.slice (some ⟨w.heap.size, 0, none⟩) len len, w.alloc (.cells cs' el), { v := .slice (some ⟨w.heap.size, 0, none⟩) len len, own := some w.heap.size, t := el, z := e.z, n := len }, ?_, World.grownBy_alloc w _ none, ?_, rfl, ?_, .inl ⟨rfl, rfl⟩⟩
    · simp only [execOp, hop]
      exact run_val (α := Unit) hrun
    · refine ⟨rfl, rfl, hxl.symm, rfl, cs'.toList, ownsW_lit w cs' len (Nat.zero_le _) (maxLen_ge (by omega)) hsize, fun j c hj hc => ?_⟩
      obtain ⟨x, h1, h2⟩ := hcells j c hj hc
      exact ⟨x, by simpa using h1, h2.mono (fun b hb => hb) (fun b hb => Below.heap_alloc w _ b ((hR.freeze f).roLt b hb))⟩
    · intro b hb; cases hb; rw [al_size]; omega

theorem ok_make {t el : TypeId} {x y : Operand} {d : Nat} {k : IntKind} {n : Int} {e : El} {z : Value} (hop : o.op = .makeSlice t x y) (ho : o.dst = some d) (hN : d < N) (hd : gB d = none) (hx : sv g x = .p (.v (.int k n))) (hy : sv g y = .p (.v (.int k n)))
    (ht : P.underlying t = some (.slice el)) (he : elI P el = some e) (hzP : zeroP P el = some z) (hzk : zok z = true) (h0 : 0 ≤ n) (h47 : lt47 n.toNat = true) : Okk P N g gB o ⟨.osl d, [(d, some (.row el e (List.replicate n.toNat default)))]⟩ :=
  okN ho hN hd fun w0 a w ro β hR => by
    have h1 : a.eval x = .int k n := by have := hR.sv x; rw [hx] at this; exact rep_v_inv this
    have h2 : a.eval y = .int k n := by have := hR.sv y; rw [hy] at this; exact rep_v_inv this
    obtain ⟨i, z', hi, hz, hez, hsz, hby, hzc⟩ := elI_spec he
    have : z' = z := by simp [zeroP, hi, hz] at hzP; exact hzP
    subst this
    have hnn : n = (n.toNat : Int) := by omega
    have hn' : n.toNat < 2199023255552 := lt47_iff.1 h47
    have hbt : i.bytes * n.toNat ≤ 64 * n.toNat := Nat.mul_le_mul_right _ hby
    obtain ⟨w', hrun, hown, hg⟩ := run_make_full (P := P) w 0 t el i z' e.z ht hi hz hsz k k n.toNat (by omega) (maxLen_ge hn') (Nat.zero_le _)
    refine ⟨.nil _, _, w', { v := .slice (some ⟨w.heap.size, 0, none⟩) n.toNat n.toNat, own := some w.heap.size, t := el, z := e.z, n := n.toNat }, ?_, hg, ?_, rfl, ?_, .inl ⟨rfl, rfl⟩⟩
    · simp only [execOp, hop, h1, h2]
      rw [hnn]
      exact run_val (α := Unit) hrun
    · refine ⟨rfl, rfl, by simp, rfl, _, (.ofRow hown), fun j c hj hc => ?_⟩
      simp only [List.length_replicate] at hj
      obtain ⟨v, hv, hr⟩ := zcell (w := w') (ro := rof gB ro β []) hez hzk c hc
      refine ⟨v, ?_, ?_⟩
      · have hlt := lt_row hj hc
        have hmod : (j * e.z + c) % z'.cells.size = c := by rw [hzc, Nat.mul_comm, Nat.mul_add_mod, Nat.mod_eq_of_lt hc]
        simp only [madeCells, Array.toList_map, List.getElem?_map, Array.toList_range, List.getElem?_range hlt, Option.map_some, hmod]
        rw [getElem!_def, hv]
      · simp only [List.getD_eq_getElem?_getD, List.getElem?_replicate, if_pos hj, Option.getD_some]; exact hr
    · intro b hb; cases hb
      have := hown.lt w.heap.size rfl
      omega

theorem news_of {w : World} {ro : Nat → Prop} {x : Value} {e : El} {m : List e.T} (h : Rep w ro x (.sl e m)) : (x = .slice none 0 0 ∧ m = []) ∨ ∃ (ad : Addr) (cap : Nat) (news : List Value), x = .slice (some ad) m.length cap ∧ news.length = m.length * e.z ∧ (∀ j u, news[j]? = some u → w.cell? (ad.add j) = some u) ∧ (∀ u ∈ news, u.oneCell' = true) ∧ ∀ j c, j < m.length → c < e.z → ∃ u, news[j * e.z + c]? = some u ∧ Rep w ro u (e.cell (m.getD j default) c) := by
  cases h with
  | sl A cap e m vals hcap hnil hA hrep =>
    cases A with
    | none =>
      left
      have : m = [] := by
        cases m with
        | nil => rfl
        | cons y m => obtain ⟨a, h, _⟩ := hA 0 (by simp); cases h
      subst this
      rw [hnil rfl]; exact ⟨rfl, rfl⟩
    | some ad =>
      right
      have hz : 0 < e.z := by cases e <;> simp [El.z]
      have hdiv : ∀ q, q < m.length * e.z → q / e.z < m.length ∧ q % e.z < e.z ∧ q / e.z * e.z + q % e.z = q := fun q hq => ⟨(Nat.div_lt_iff_lt_mul hz).2 hq, Nat.mod_lt _ hz, by rw [Nat.mul_comm]; exact Nat.div_add_mod q e.z⟩
      refine ⟨ad, cap, (List.range (m.length * e.z)).map (fun q => vals (q / e.z) (q % e.z)), rfl, by simp, fun j u hu => ?_, fun u hu => ?_, fun j c hj hc => ?_⟩
      · simp only [List.getElem?_map] at hu
        by_cases hj : j < m.length * e.z
        · rw [List.getElem?_range hj] at hu
          simp at hu; subst hu
          obtain ⟨h1, h2, h3⟩ := hdiv j hj
          obtain ⟨a', e1, hs, _, hc⟩ := hA _ h1
          cases e1
          rw [addr_add hs, ← hc _ h2, h3]
        · rw [List.getElem?_eq_none (by simpa using hj)] at hu; cases hu
      · obtain ⟨q, hq, rfl⟩ := List.mem_map.1 hu
        obtain ⟨h1, h2, h3⟩ := hdiv q (by simpa using hq)
        exact rep_one (hrep _ _ h1 h2) (cell_flat _ _ _)
      · have hlt := lt_row hj hc
        refine ⟨vals j c, ?_, hrep j c hj hc⟩
        simp only [List.getElem?_map, List.getElem?_range hlt, Option.map_some]
        rw [show (j * e.z + c) / e.z = j by rw [Nat.mul_comm, Nat.mul_add_div hz, Nat.div_eq_of_lt hc]; rfl, show (j * e.z + c) % e.z = c by rw [Nat.mul_comm, Nat.mul_add_mod, Nat.mod_eq_of_lt hc]]

theorem own_base {w : World} {b b' e sz n : Nat} {v : Value} {xs : List Value} (h : ownsW w b e sz v n xs) (hb : b' ≤ b) : ownsW w b' e sz v n xs :=
  ⟨h.1, h.2.imp id fun ⟨g, cap, cur, h1, h2, r⟩ => ⟨g, cap, cur, h1, Nat.le_trans hb h2, r⟩⟩

theorem bound_app {n m by' : Nat} (h : n + m < 2199023255552) (hb : by' ≤ 64) : (n + m) * by' ≤ 140737488355328 := by
  have : (n + m) * by' ≤ 2199023255552 * 64 := Nat.mul_le_mul (by omega) hb
  omega

/-- the cells of a slice that is read now, what they lead to being read only. -/
theorem exN_ok {w0 : Base} {a : Act} {w : World} {ro : Nat → Prop} {β : Nat → Option Blk} (h : R0 w0 N g gB a w ro β) {y : Operand} {e : El} {m : List e.T} (he : exN g gB y = some (.sl e m)) : (a.eval y = .slice none 0 0 ∧ m = []) ∨ ∃ (ad : Addr) (cap : Nat) (news : List Value), a.eval y = .slice (some ad) m.length cap ∧ news.length = m.length * e.z ∧ (∀ j u, news[j]? = some u → w.cell? (ad.add j) = some u) ∧ (∀ u ∈ news, u.oneCell' = true) ∧ ∀ j c, j < m.length → c < e.z → ∃ u, news[j * e.z + c]? = some u ∧ Rep w ro u (e.cell (m.getD j default) c) := by
  have hs := h.sv y
  unfold Ev.exN at he
  split at he
  · rename_i aa hh
    cases he; rw [hh] at hs
    exact news_of hs
  · rename_i id hh
    rw [hh] at hs
    split at he
    · rename_i tt e' l hb
      cases he
      obtain ⟨k, hk, hv⟩ := hs
      obtain ⟨k', hk', hrep, _⟩ := h.box id _ hb
      rw [hk] at hk'; cases hk'
      obtain ⟨htt, hzz, hn, hownb, xs, hrow, hcells⟩ := hrep
      have hzpos : 0 < e.z := by cases e <;> simp [El.z]
      rcases hrow.2 with ⟨h1, h2⟩ | ⟨gg, cap, cur, h1, h2, h3⟩
      · left
        exact ⟨by rw [hv, h1], List.eq_nil_of_length_eq_zero (by omega)⟩
      · right
        refine ⟨⟨gg, 0, none⟩, cap, xs, by rw [hv, h1, hn], by rw [hrow.1, hn], fun j u hu => hrow.cells (by rw [h1]; rfl) j u hu, fun u hu => ?_, hcells⟩
        obtain ⟨q, hq, rfl⟩ := List.getElem_of_mem hu
        have hq' : q < m.length * e.z := by rw [← hn, ← hrow.1]; exact hq
        obtain ⟨u, hu, hr⟩ := hcells (q / e.z) (q % e.z) ((Nat.div_lt_iff_lt_mul hzpos).2 hq') (Nat.mod_lt _ hzpos)
        rw [show q / e.z * e.z + q % e.z = q by rw [Nat.mul_comm]; exact Nat.div_add_mod q e.z, List.getElem?_eq_getElem hq] at hu
        cases hu
        exact rep_one hr (cell_flat _ _ _)
    · rename_i e' l hb
      cases he
      obtain ⟨k, hk, hv⟩ := hs
      obtain ⟨k', hk', hrep, _⟩ := h.box id _ hb
      rw [hk] at hk'; cases hk'
      rw [hv]; exact news_of hrep
    · cases he
  · cases he

theorem run_appendW_fits (w : World) (base : Nat) (t ty e : TypeId) (i : TypeInfo) (size : Nat) (ht : P.underlying t = some (.slice e)) (hi : P.info? e = some i) (hsize : i.size = size)
    (g n cap : Nat) (xs : List Value) (hown : ownsW w base e size (.slice (some ⟨g, 0, none⟩) n cap) n xs)
    (a : Addr) (m c : Nat) (news : List Value) (hl : news.length = m * size) (hnews : ∀ j u, news[j]? = some u → w.cell? (a.add j) = some u) (h1 : ∀ u ∈ news, u.oneCell' = true)
    (hroom : n + m ≤ cap) :
    ∃ w', (Builtin.append_ #[t, t] ty #[.slice (some ⟨g, 0, none⟩) n cap, .slice (some a) m c]).run P w = .ok (.slice (some ⟨g, 0, none⟩) (n + m) cap) w' ∧
      ownsW w' base e size (.slice (some ⟨g, 0, none⟩) (n + m) cap) (n + m) (xs ++ news) ∧ w.grownBy w' (some g) := by
  subst hsize
  have hlen : (xs ++ news).length = (n + m) * i.size := by rw [List.length_append, hown.1, hl, Nat.add_mul]
  rcases hown.2 with ⟨h, _⟩ | ⟨g', cap', cur, h, hbg, hg, hnc, hcm, hcs, htake⟩
  · simp at h
  · simp only [Value.slice.injEq, Option.some.injEq, Addr.mk.injEq, and_true, true_and] at h
    obtain ⟨rfl, rfl⟩ := h
    have hfit : n * i.size + news.length ≤ cur.size := by rw [hl, ← Nat.add_mul]; exact Nat.le_trans (Nat.mul_le_mul_right _ hroom) hcs
    have hr := run_append_room (P := P) w t ty e i ht hi g n cap cur hg a m c news hl hnews h1 hroom hfit
    refine ⟨_, hr, ⟨hlen, .inr ⟨g, cap, _, rfl, hbg, setRow_heap w g cur _ e _ hg, hroom, hcm, ?_, ?_⟩⟩, ⟨rfl, rfl, rfl, by simp, fun k _ hk => setRow_other w g k _ (fun e => hk (by simp [e]))⟩⟩
    · simp only [List.size_toArray, List.length_append, List.length_take, List.length_drop, Array.length_toList]
      omega
    · rw [htake, ← hlen]
      exact List.take_left
theorem run_appendW_none (w : World) (base : Nat) (t ty e : TypeId) (i : TypeInfo) (size : Nat) (ht : P.underlying t = some (.slice e)) (hi : P.info? e = some i)
    (v : Value) (n : Nat) (xs : List Value) (hown : ownsW w base e size v n xs) :
    (Builtin.append_ #[t, t] ty #[v, .slice none 0 0]).run P w = .ok v w := by
  rcases hown.2 with ⟨rfl, rfl⟩ | ⟨g, cap, cur, rfl, _, _, hnc, _⟩
  · simp [Builtin.append_, run_underlying ht, sizeOf, typeInfo, hi, Builtin.lenOf, Builtin.firstCells]
  · simp [Builtin.append_, run_underlying ht, sizeOf, typeInfo, hi, Builtin.lenOf, Builtin.firstCells, hnc, storeCells]
/-- an append, whatever is appended to: 'gs' tells what row of one's own is used up. -/
theorem ok_append {x y : Operand} {c : Call} {t el : TypeId} {d : Nat} {e : El} {l m : List e.T} {gs : Bxs} (hop : o.op = .call c) (hc : c.callee = .builtin .append) (hargs : c.args.toList = [x, y]) (hty : c.argTypes.toList = [t, t]) (ho : o.dst = some d) (hN : d < N) (hd : gB d = none)
    (ht : P.underlying t = some (.slice el)) (he : elI P el = some e) (hy : exN g gB y = some (.sl e m)) (h47 : lt47 (l.length + m.length) = true)
    (hx : (sv g x = .p (.v (.slice none 0 0)) ∧ l = [] ∧ gs = []) ∨ ∃ id, sv g x = .osl id ∧ gB id = some (some (.row el e l)) ∧ gs = [(id, none)]) : Okk P N g gB o ⟨.osl d, (d, some (.row el e (l ++ m))) :: gs⟩ := by
  intro w0 a w K Q hR hK
  obtain ⟨ro, β, hR⟩ := hR
  obtain ⟨i, z, hi, hz, hez, hsz, hby, hzc⟩ := elI_spec he
  have h47' : l.length + m.length < 2199023255552 := lt47_iff.1 h47
  have hzpos : 0 < e.z := by cases e <;> simp [El.z]
  -- the base
  obtain ⟨vb, xs, hvb, hown, hcellb, hrow⟩ : ∃ (vb : Value) (xs : List Value), a.eval x = vb ∧ ownsW w 0 el e.z vb l.length xs ∧ (∀ j c, j < l.length → c < e.z → ∃ u, xs[j * e.z + c]? = some u ∧ Rep w ro u (e.cell (l.getD j default) c)) ∧
      ((vb = .slice none 0 0 ∧ gs = []) ∨ ∃ id k, gs = [(id, none)] ∧ β id = some k ∧ k.own = vb.ownBlock ∧ ∃ bx, gB id = some (some bx) ∧ bx.kind = .one) := by
    rcases hx with ⟨hx, rfl, rfl⟩ | ⟨id, hx, hb, rfl⟩
    · have h1 : a.eval x = .slice none 0 0 := by have := hR.sv x; rw [hx] at this; exact rep_v_inv this
      exact ⟨_, [], h1, ownsW_nil _ _ _ _, fun j c hj => by simp at hj, .inl ⟨rfl, rfl⟩⟩
    · have h1 := hR.sv x
      rw [hx] at h1
      obtain ⟨k, hk, hv⟩ := h1
      obtain ⟨k', hk', hrep, _⟩ := hR.box id _ hb
      rw [hk] at hk'; cases hk'
      obtain ⟨htt, hzz, hn, hownb, xs, hrow, hcells⟩ := hrep
      refine ⟨k.v, xs, hv, ?_, hcells, .inr ⟨id, k, rfl, hk, hownb, _, hb, rfl⟩⟩
      rw [htt, hn] at hrow; exact hrow
  -- what the append does
  obtain ⟨v', w', row, news, hrun, hown', hg, hrow1, hfresh, hnews⟩ : ∃ (v' : Value) (w' : World) (row : Option Nat) (news : List Value), (Builtin.append_ #[t, t] o.type #[vb, a.eval y]).run P w = .ok v' w' ∧ ownsW w' 0 el e.z v' (l.length + m.length) (xs ++ news) ∧ w.grownBy w' row ∧ (∀ b, row = some b → vb.ownBlock = some b) ∧
      (∀ b, v'.ownBlock = some b → (w.heap.size ≤ b ∧ b < w'.heap.size) ∨ row = some b) ∧ (∀ j c, j < m.length → c < e.z → ∃ u, news[j * e.z + c]? = some u ∧ Rep w ro u (e.cell (m.getD j default) c)) := by
    rcases exN_ok hR hy with ⟨hyv, rfl⟩ | ⟨ad, cap, news, hyv, hnl, hnc, hn1, hnr⟩
    · refine ⟨vb, w, vb.ownBlock, [], ?_, by simpa using hown, ⟨rfl, rfl, rfl, Nat.le_refl _, fun _ _ _ => rfl⟩, fun b hb => hb, fun b hb => .inr hb, fun j c hj => by simp at hj⟩
      rw [hyv]
      exact run_appendW_none w 0 t o.type el i e.z ht hi vb l.length xs hown
    · rw [hyv]
      have fresh : ∀ (v' : Value) (w' : World) (n : Nat) (zs : List Value), ownsW w' w.heap.size el e.z v' n zs → ∀ b, v'.ownBlock = some b → (w.heap.size ≤ b ∧ b < w'.heap.size) ∨ (none : Option Nat) = some b := fun v' w' n zs h b hb => .inl (h.lt b hb)
      rcases hown.2 with ⟨hv, hl0⟩ | ⟨gg, cp, cur, hv, hb, hh, hcap, hmax, hcs, htk⟩
      · have hx0 : xs = [] := List.eq_nil_of_length_eq_zero (by rw [hown.1, hl0, Nat.zero_mul])
        obtain ⟨v', w', h1, h2, h3, _⟩ := run_append_own (P := P) w w.heap.size t o.type el i z e.z i.bytes ht hi hz hsz rfl hzc hzpos (.slice none 0 0) 0 [] (World.ownsRow_nil _ _ _ _) ad m.length cap news hnl hnc hn1 (maxLen_ge (by omega)) (bound_app (by omega) hby) (Nat.le_refl _)
        refine ⟨v', w', none, news, by rw [hv]; exact h1, ?_, h3, fun b hb => (by cases hb), fresh _ _ _ _ (.ofRow h2), hnr⟩
        rw [hl0, hx0]; exact own_base (.ofRow h2) (Nat.zero_le _)
      · by_cases hroom : l.length + m.length ≤ cp
        · obtain ⟨w', h1, h2, h3⟩ := run_appendW_fits (P := P) w 0 t o.type el i e.z ht hi hsz gg l.length cp xs (hv ▸ hown) ad m.length cap news hnl hnc hn1 hroom
          exact ⟨_, w', some gg, news, by rw [hv]; exact h1, h2, h3, fun b hb => by rw [hv]; exact hb, fun b hb => .inr hb, hnr⟩
        · obtain ⟨v', w', h1, h2, h3⟩ := run_append_arg_grows (P := P) w t o.type el i z e.z i.bytes ht hi hz hsz rfl hzc hzpos ⟨gg, 0, none⟩ l.length cp xs hown.1 (hown.cells (by rw [hv]; rfl)) ad m.length cap news hnl hnc (by omega) (maxLen_ge (by omega)) (bound_app h47' hby)
          exact ⟨v', w', none, news, by rw [hv]; exact h1, own_base (.ofRow h2) (Nat.zero_le _), h3, fun b hb => (by cases hb), fresh _ _ _ _ (.ofRow h2), hnr⟩
  have hroW : ∀ b, ro b → w'.heap[b]? = w.heap[b]? := fun b hb => hg.block b (hR.roLt b hb) (fun e' => by
    have h1 := hrow1 b e'.symm
    rcases hrow with ⟨rfl, _⟩ | ⟨id, k, _, hk, ho', bx, hbx, hkd⟩
    · cases h1
    · obtain ⟨k', hk', _, hh⟩ := hR.box id bx hbx
      rw [hk] at hk'; cases hk'
      exact (hh b (by rw [hkd]; exact ho'.trans h1)).2 hb)
  have h2 := hR.grow (d := d) (x := .row el e (l ++ m)) (k := { v := v', own := v'.ownBlock, t := el, z := e.z, n := l.length + m.length }) (w' := w') (ro' := ro) (row := row) (gs := gs) hd (.inl hN)
    (fun id r hm => by
      rcases hrow with ⟨_, rfl⟩ | ⟨id', k, rfl, hk, ho', bx, hbx, hkd⟩
      · cases hm
      · simp at hm; obtain ⟨rfl, rfl⟩ := hm; exact ⟨rfl, bx, hbx⟩) hg (run_drawn _ hrun)
    (fun b hb => by
      have h1 := hrow1 b hb
      rcases hrow with ⟨rfl, _⟩ | ⟨id', k, rfl, hk, ho', bx, hbx, hkd⟩
      · cases h1
      · exact ⟨id', k, bx, by simp, hbx, hk, by rw [hkd]; exact ho'.trans h1⟩) (fun b hb => hb) (fun b hb => .inl hb)
    (by
      refine ⟨rfl, rfl, by simp, rfl, xs ++ news, hown', fun j c' hj hc' => ?_⟩
      have hxl := hown.1
      by_cases hjl : j < l.length
      · obtain ⟨u, hu, hr⟩ := hcellb j c' hjl hc'
        refine ⟨u, ?_, ?_⟩
        · rw [List.getElem?_append_left (by rw [hxl]; exact lt_row hjl hc')]; exact hu
        · rw [show (l ++ m).getD j default = l.getD j default by simp [List.getElem?_append_left hjl]]
          exact hr.mono (fun b hb => hb) hroW
      · have hjm : j - l.length < m.length := by simp at hj; omega
        obtain ⟨u, hu, hr⟩ := hnews (j - l.length) c' hjm hc'
        refine ⟨u, ?_, ?_⟩
        · have hjj : j * e.z = l.length * e.z + (j - l.length) * e.z := by rw [← Nat.add_mul]; congr 1; omega
          rw [List.getElem?_append_right (by rw [hxl, hjj]; omega), hxl, hjj, ← hu]; congr 1; omega
        · rw [show (l ++ m).getD j default = m.getD (j - l.length) default by simp [List.getElem?_append_right (show l.length ≤ j by omega)]]
          exact hr.mono (fun b hb => hb) hroW)
    (fun b hb => (hfresh b hb).imp id fun h1 => by
      have h1 := hrow1 b h1
      rcases hrow with ⟨rfl, _⟩ | ⟨id', k, rfl, hk, ho', bx, hbx, hkd⟩
      · cases h1
      · exact ⟨id', k, bx, by simp, hbx, hk, by rw [hkd]; exact ho'.trans h1⟩)
    (fun b q hb => by
      rcases hfresh b (owns_own rfl hb) with h1 | h1
      · exact h1.2
      · have h1 := hrow1 b h1
        rcases hrow with ⟨rfl, _⟩ | ⟨id', k, rfl, hk, ho', bx, hbx, hkd⟩
        · cases h1
        · exact Nat.lt_of_lt_of_le (hR.βLt id' k b .one hk (ho'.trans h1)) hg.size)
  unfold Oper.wp
  have hargs' : c.args = #[x, y] := by rw [← Array.toList_inj]; simpa using hargs
  have hty' : c.argTypes = #[t, t] := by rw [← Array.toList_inj]; simpa using hty
  have hexec : (execOp a.eval o).run P w = .ok (.value v') w' := by
    simp only [execOp, hop, resolve, hc, hargs', hty', List.map_toArray, List.map_cons, List.map_nil, Sem.run_bind, Sem.run_pure, Result.andThen_ok, invoke, builtin, hvb, hrun]
  rw [hexec]
  exact hK _ _ ⟨_, _, h2.put (fun x hx => by rw [ho] at hx; cases hx; exact hN) ⟨_, by simp [setβ]; rfl, rfl⟩⟩
end
end Go.Proofs.YtalkkenkeilmpaaGreat.Ev
