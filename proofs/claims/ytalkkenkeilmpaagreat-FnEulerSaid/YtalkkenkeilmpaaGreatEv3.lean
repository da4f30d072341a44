/- What the evaluator tells of one operation is what the model does: operations one by one that leave memory as it is. -/
import Derived.Test.YtalkkenkeilmpaaGreatEv2
import Derived.Laws.StructEq
import Derived.Laws.Cover3
import Derived.ChangeKeysEq
namespace Go.Proofs.YtalkkenkeilmpaaGreat.Ev
open Go Go.RowKit
set_option linter.unusedVariables false
set_option linter.unusedSimpArgs false

section
variable {P : Program} {N : Nat} {g : Nat → SV} {gB : Nat → Option (Option Box)} {o : Oper} {u : Upd} {cx : Cx Upd}

theorem ok_move {x : Operand} (ho : o.op = .move x ∨ o.op = .assign x) (hd : ∀ d, o.dst = some d → d < N) : Okk P N g gB o ⟨sv g x, []⟩ :=
  okV0 hd fun w0 a w ro β hR => ⟨a.eval x, by rcases ho with h | h <;> simp [execOp, h], hR.sv x⟩

theorem ok_pick {c x y : Operand} {t : Bool} (ho : o.op = .pick c x y) (hc : sv g c = .p (.v (.bool t))) (hd : ∀ d, o.dst = some d → d < N) : Okk P N g gB o ⟨if t = true then sv g x else sv g y, []⟩ :=
  okV0 hd fun w0 a w ro β hR => by
    have h1 := hR.sv c
    rw [hc] at h1
    have h2 := rep_v_inv h1
    cases t
    · exact ⟨a.eval y, by simp [execOp, ho, h2, asBool], by simpa using hR.sv y⟩
    · exact ⟨a.eval x, by simp [execOp, ho, h2, asBool], by simpa using hR.sv x⟩

theorem ok_nil {x : Operand} {s : SV} (ho : o.op = .nilCheck x) (hx : sv g x = s) (hs : (∃ id off, s = .ref id off) ∨ (∃ id j c, s = .eref id j c) ∨ ∃ xs, s = .pt xs) (hd : ∀ d, o.dst = some d → d < N) : Okk P N g gB o ⟨s, []⟩ :=
  okV0 hd fun w0 a w ro β hR => by
    have h1 := hR.sv x
    rw [hx] at h1
    have h2 : ∃ ad, a.eval x = .pointer (some ad) := by
      rcases hs with ⟨id, off, rfl⟩ | ⟨id, j, c, rfl⟩ | ⟨xs, rfl⟩
      · obtain ⟨k, b, _, _, e⟩ := h1; exact ⟨_, e⟩
      · obtain ⟨k, b, _, _, e⟩ := h1; exact ⟨_, e⟩
      · obtain ⟨ad, e, _⟩ := h1; exact ⟨_, e⟩
    obtain ⟨ad, e⟩ := h2
    exact ⟨a.eval x, by simp [execOp, ho, e], h1⟩

theorem run_val {α : Type} {s : Sem Value} {w w' : World} {v : Value} (h : s.run P w = .ok v w') : (do pure (Next.value (← s)) : Sem Next).run P w = .ok (.value v) w' := by
  rw [run_bind_ok h]; rfl

theorem ok_load_ref (hP : cx.P = P) {t : TypeId} {x : Operand} {id off : Nat} {xs : List AV} {y : AV} (ho : o.op = .load t x) (hx : sv g x = .ref id off) (hb : gB id = some (some (.vr xs))) (hl : ldv cx t (xs.drop off) = some y) (hd : ∀ d, o.dst = some d → d < N) : Okk P N g gB o ⟨.p y, []⟩ :=
  okV0 hd fun w0 a w ro β hR => by
    have h1 := hR.sv x
    rw [hx] at h1
    obtain ⟨k, b, hk, hbk, e⟩ := h1
    obtain ⟨k', hk', hrep, _⟩ := hR.box id _ hb
    rw [hk] at hk'; cases hk'
    obtain ⟨b', c, tt, hb', hheap, hsz, hcells⟩ := hrep
    rw [hbk] at hb'; cases hb'
    obtain ⟨v, hv, hr⟩ := ldv_ok (w := w) (ro := ro) (a := ⟨b, off, none⟩) hP hl rfl (fun i y hy => by
      rw [List.getElem?_drop] at hy
      obtain ⟨z, hz, hrz⟩ := hcells _ _ hy
      exact ⟨z, by simp [World.cell?, hheap, hz], hrz⟩)
    refine ⟨v, ?_, hr⟩
    simp only [execOp, ho, e, Instr.loadAt, Instr.sureAddr]
    exact run_val (α := Unit) (by rw [run_bind_ok (x := ⟨b, off, none⟩) (w' := w) rfl]; exact hv)

theorem vq_cells {w : World} {ro : Nat → Prop} {k : Blk} {kid b : Nat} {xs : List Value} (h : BoxRep w ro 0 k (.vq kid xs)) (hb : k.own = some b) : ∀ i : Nat, w.cell? ⟨b, i, none⟩ = (xs ++ [k.lk])[i]? := by
  obtain ⟨b', c, tt, hb', hheap, hc⟩ := h
  rw [hb] at hb'; cases hb'
  intro i
  rw [← hc, Array.getElem?_toList]
  simp [World.cell?, hheap]
theorem ok_load_vq (hP : cx.P = P) {t : TypeId} {x : Operand} {id off kid : Nat} {xs : List Value} {y : AV} (ho : o.op = .load t x) (hx : sv g x = .ref id off) (hb : gB id = some (some (.vq kid xs))) (hl : ldv cx t ((xs.map AV.v).drop off) = some y) (hd : ∀ d, o.dst = some d → d < N) : Okk P N g gB o ⟨.p y, []⟩ :=
  okV0 hd fun w0 a w ro β hR => by
    have h1 := hR.sv x
    rw [hx] at h1
    obtain ⟨k, b, hk, hbk, e⟩ := h1
    obtain ⟨k', hk', hrep, _⟩ := hR.box id _ hb
    rw [hk] at hk'; cases hk'
    have hc := vq_cells hrep hbk
    obtain ⟨v, hv, hr⟩ := ldv_ok (w := w) (ro := ro) (a := ⟨b, off, none⟩) hP hl rfl (fun i y hy => by
      rw [List.getElem?_drop, List.getElem?_map] at hy
      cases hz : xs[off + i]? with
      | none => rw [hz] at hy; cases hy
      | some z =>
        rw [hz] at hy; cases hy
        refine ⟨z, ?_, .v z⟩
        show w.cell? ⟨b, off + i, none⟩ = _
        rw [hc, List.getElem?_append_left (List.getElem?_eq_some_iff.1 hz).1]; exact hz)
    refine ⟨v, ?_, hr⟩
    simp only [execOp, ho, e, Instr.loadAt, Instr.sureAddr]
    exact run_val (α := Unit) (by rw [run_bind_ok (x := ⟨b, off, none⟩) (w' := w) rfl]; exact hv)
theorem ok_load_sol {t : TypeId} {x : Operand} {id kid n : Nat} {xs : List Value} (ho : o.op = .load t x) (hx : sv g x = .ref id 0) (hb : gB id = some (some (.vq kid xs))) (hag : agP P t = some true) (hn : szP P t = some n) (hl : n = xs.length + 1) (hd : ∀ d, o.dst = some d → d < N) : Okk P N g gB o ⟨.kv kid xs, []⟩ :=
  okV0 hd fun w0 a w ro β hR => by
    have h1 := hR.sv x
    rw [hx] at h1
    obtain ⟨k, b, hk, hbk, e⟩ := h1
    obtain ⟨k', hk', hrep, _⟩ := hR.box id _ hb
    rw [hk] at hk'; cases hk'
    have hc := vq_cells hrep hbk
    obtain ⟨k1, k2, e1, e2, e3⟩ := hR.lnk id kid xs hb
    rw [hk] at e1; cases e1
    have hcell : ∀ i, i < n → w.cell? ((⟨b, 0, none⟩ : Addr).add i) = some (((xs ++ [k.lk])[i]?).getD undef) := fun i hi => by
      rw [addr_add rfl, Nat.zero_add, hc i, List.getElem?_eq_getElem (show i < (xs ++ [k.lk]).length by simp; omega)]; rfl
    refine ⟨.agg ((xs ++ [k.lk]).toArray), ?_, k2, e2, by rw [e3]⟩
    simp only [execOp, ho, e, Instr.loadAt, Instr.sureAddr]
    refine run_val (α := Unit) ?_
    rw [run_bind_ok (x := ⟨b, 0, none⟩) (w' := w) rfl]
    unfold loadVar
    rw [run_bind_ok (pr_agg hag w)]
    simp only [if_true]
    rw [run_bind_ok (pr_size hn w), run_bind_ok (run_loadCells w ⟨b, 0, none⟩ n _ hcell)]
    have e4 : (List.range n).map (fun i => ((xs ++ [k.lk])[i]?).getD undef) = xs ++ [k.lk] := by
      apply List.ext_getElem?
      intro i
      rw [List.getElem?_map]
      by_cases hi : i < n
      · rw [List.getElem?_range hi, Option.map_some, List.getElem?_eq_getElem (show i < (xs ++ [k.lk]).length by simp; omega)]; rfl
      · rw [List.getElem?_eq_none (by simp; omega), List.getElem?_eq_none (by simp; omega)]; rfl
    simp only [e4]
    rfl
theorem ok_extract_sol {x : Operand} {kid : Nat} {xs ys : List Value} (ho : o.op = .extract x 0) (hx : sv g x = .tkv kid xs ys) (hd : ∀ d, o.dst = some d → d < N) : Okk P N g gB o ⟨.kv kid xs, []⟩ :=
  okV0 hd fun w0 a w ro β hR => by
    have h1 := hR.sv x
    rw [hx] at h1
    obtain ⟨k, hk, e⟩ := h1
    refine ⟨_, ?_, k, hk, rfl⟩
    simp only [execOp, ho, e]
    refine run_val (α := Unit) ?_
    simp [Instr.extract]
theorem ok_extract_by {x : Operand} {j kid : Nat} {xs ys : List Value} {y : Value} (ho : o.op = .extract x (j + 1)) (hx : sv g x = .tkv kid xs ys) (hy : ys[j]? = some y) (hd : ∀ d, o.dst = some d → d < N) : Okk P N g gB o ⟨.p (.v y), []⟩ :=
  okV0 hd fun w0 a w ro β hR => by
    have h1 := hR.sv x
    rw [hx] at h1
    obtain ⟨k, hk, e⟩ := h1
    refine ⟨y, ?_, .v y⟩
    simp only [execOp, ho, e]
    refine run_val (α := Unit) ?_
    have hj := (List.getElem?_eq_some_iff.1 hy)
    obtain ⟨hj, hj2⟩ := hj
    simp [Instr.extract, hj, hj2]

theorem ok_load_pt (hP : cx.P = P) {t : TypeId} {x : Operand} {xs : List AV} {y : AV} (ho : o.op = .load t x) (hx : sv g x = .pt xs) (hl : ldv cx t xs = some y) (hd : ∀ d, o.dst = some d → d < N) : Okk P N g gB o ⟨.p y, []⟩ :=
  okV0 hd fun w0 a w ro β hR => by
    have h1 := hR.sv x
    rw [hx] at h1
    obtain ⟨ad, e, hs, hr, hc⟩ := h1
    obtain ⟨v, hv, hr⟩ := ldv_ok (w := w) (ro := ro) (a := ad) hP hl hs hc
    refine ⟨v, ?_, hr⟩
    simp only [execOp, ho, e, Instr.loadAt, Instr.sureAddr]
    exact run_val (α := Unit) (by rw [run_bind_ok (x := ad) (w' := w) rfl]; exact hv)

theorem row_cells {w : World} {base t z n cap b : Nat} {xs : List Value} (h : ownsW w base t z (.slice (some ⟨b, 0, none⟩) n cap) n xs) : ∃ cur, w.heap[b]? = some (.cells cur t (0, 0)) ∧ n ≤ cap ∧ cap * z ≤ cur.size ∧ cur.toList.take (n * z) = xs ∧ base ≤ b ∧ cap ≤ maxLen := by
  rcases h.2 with ⟨h', _⟩ | ⟨g', cap', cur, h', hb, hg, hnc, hcm, hcs, htake⟩
  · cases h'
  · cases h'; exact ⟨cur, hg, hnc, hcs, htake, hb, hcm⟩

theorem own_slice {k : Blk} {b : Nat} {w : World} {base t z : Nat} {xs : List Value} (ho : k.own = k.v.ownBlock) (hb : k.own = some b) (h : ownsW w base t z k.v k.n xs) : ∃ cap, k.v = .slice (some ⟨b, 0, none⟩) k.n cap := by
  rcases h.2 with ⟨h', _⟩ | ⟨g', cap', cur, h', _⟩
  · rw [ho, h'] at hb; cases hb
  · rw [ho, h'] at hb; cases hb; exact ⟨cap', h'⟩

theorem lt_row {j c n z : Nat} (hj : j < n) (hc : c < z) : j * z + c < n * z := by
  calc j * z + c < j * z + z := by omega
    _ = (j + 1) * z := by rw [Nat.add_mul]; omega
    _ ≤ n * z := Nat.mul_le_mul_right _ hj

theorem ok_load_eref (hP : cx.P = P) {t tt : TypeId} {x : Operand} {id j c : Nat} {e : El} {l : List e.T} {y : AV} (ho : o.op = .load t x) (hx : sv g x = .eref id j c) (hb : gB id = some (some (.row tt e l))) (hj : j < l.length) (hl : ldv cx t ((e.cells (l.getD j default)).drop c) = some y) (hd : ∀ d, o.dst = some d → d < N) : Okk P N g gB o ⟨.p y, []⟩ :=
  okV0 hd fun w0 a w ro β hR => by
    have h1 := hR.sv x
    rw [hx] at h1
    obtain ⟨k, b, hk, hbk, ee⟩ := h1
    obtain ⟨k', hk', hrep, _⟩ := hR.box id _ hb
    rw [hk] at hk'; cases hk'
    obtain ⟨ht, hz, hn, hown, xs, hrow, hcells⟩ := hrep
    obtain ⟨cap, hkv⟩ := own_slice hown hbk hrow
    obtain ⟨v, hv, hr⟩ := ldv_ok (w := w) (ro := ro) (a := ⟨b, j * k.z + c, none⟩) hP hl rfl (fun i y hy => by
      rw [List.getElem?_drop] at hy
      simp only [El.cells, List.getElem?_map] at hy
      by_cases hi : c + i < e.z
      · rw [List.getElem?_range hi] at hy
        simp at hy
        obtain ⟨z, hz', hrz⟩ := hcells j (c + i) hj hi
        refine ⟨z, ?_, hy ▸ hrz⟩
        rw [← hz']
        have := ownsW.cellAt (hkv ▸ hrow) (j * e.z + (c + i)) (hn ▸ lt_row hj hi)
        rw [← this, hz, Nat.add_assoc]
      · rw [List.getElem?_eq_none (by simpa using hi)] at hy; cases hy)
    refine ⟨v, ?_, hr⟩
    simp only [execOp, ho, ee, Instr.loadAt, Instr.sureAddr]
    exact run_val (α := Unit) (by rw [run_bind_ok (x := ⟨b, j * k.z + c, none⟩) (w' := w) rfl]; exact hv)

theorem fld_spec {s : TypeId} {f k : Nat} {t : TypeId} (h : fld P s f = some (k, t)) : ∃ fs fd i, P.underlying s = some (.struct fs) ∧ fs[f]? = some fd ∧ fd.offset = k ∧ fd.type = t ∧ P.info? t = some i ∧ i.size ≠ 0 := by
  unfold fld at h
  split at h
  · rename_i fs hfs
    split at h
    · rename_i fd hfd
      split at h
      · rename_i i hi
        split at h
        · cases h
        · rename_i hz
          cases h
          refine ⟨fs, fd, i, hfs, hfd, rfl, rfl, hi, fun h0 => ?_⟩
          rw [h0] at hz; cases hz
      · cases h
    · cases h
  · cases h

theorem run_fieldAt {s : TypeId} {f k : Nat} {t : TypeId} (h : fld P s f = some (k, t)) {ad : Addr} (hs : ad.spot = none) (w : World) : (Instr.fieldAt s (.pointer (some ad)) f).run P w = .ok (.pointer (some ⟨ad.block, ad.off + k, none⟩)) w := by
  obtain ⟨fs, fd, i, h1, h2, h3, h4, h5, h6⟩ := fld_spec h
  subst h3 h4
  unfold Instr.fieldAt
  rw [run_bind_ok (pr_under h1 w)]
  simp only [h2]
  rw [run_bind_ok (x := ad) (w' := w) rfl]
  unfold fieldPlace
  rw [run_bind_ok (x := (⟨ad.block, ad.off + fd.offset, none⟩ : Addr)) (w' := w)]
  · rfl
  · rw [run_bind_ok (pr_size (n := i.size) (by simp [szP, h5]) w)]
    simp [h6, addr_add hs]

theorem ok_fieldAddr {s : TypeId} {x : Operand} {f k : Nat} {t : TypeId} {r : SV} (ho : o.op = .fieldAddr s x f) (hf : fld P s f = some (k, t))
    (hx : (∃ id off, sv g x = .ref id off ∧ r = .ref id (off + k)) ∨ (∃ id j c, sv g x = .eref id j c ∧ r = .eref id j (c + k)) ∨ ∃ xs, sv g x = .pt xs ∧ r = .pt (xs.drop k)) (hd : ∀ d, o.dst = some d → d < N) : Okk P N g gB o ⟨r, []⟩ :=
  okV0 hd fun w0 a w ro β hR => by
    have h1 := hR.sv x
    rcases hx with ⟨id, off, hx, rfl⟩ | ⟨id, j, c, hx, rfl⟩ | ⟨xs, hx, rfl⟩
    · rw [hx] at h1
      obtain ⟨kk, b, hk, hb, e⟩ := h1
      refine ⟨.pointer (some ⟨b, off + k, none⟩), ?_, kk, b, hk, hb, rfl⟩
      simp only [execOp, ho, e]
      exact run_val (α := Unit) (run_fieldAt hf rfl w)
    · rw [hx] at h1
      obtain ⟨kk, b, hk, hb, e⟩ := h1
      refine ⟨.pointer (some ⟨b, j * kk.z + c + k, none⟩), ?_, kk, b, hk, hb, by rw [Nat.add_assoc]⟩
      simp only [execOp, ho, e]
      exact run_val (α := Unit) (run_fieldAt hf rfl w)
    · rw [hx] at h1
      obtain ⟨ad, e, hs, hr, hc⟩ := h1
      refine ⟨.pointer (some ⟨ad.block, ad.off + k, none⟩), ?_, _, rfl, rfl, hr, fun i y hy => ?_⟩
      · simp only [execOp, ho, e]
        exact run_val (α := Unit) (run_fieldAt hf hs w)
      · rw [List.getElem?_drop] at hy
        obtain ⟨v, h2, h3⟩ := hc _ _ hy
        exact ⟨v, by rw [← h2, Nat.add_assoc], h3⟩

theorem ok_field (hP : cx.P = P) {s : TypeId} {x : Operand} {f k : Nat} {t : TypeId} {aa y : AV} (ho : o.op = .field s x f) (hf : fld P s f = some (k, t)) (hx : sv g x = .p aa) (hag : aggA aa = true) (hl : ldv cx t ((cellsA aa).drop k) = some y) (hd : ∀ d, o.dst = some d → d < N) : Okk P N g gB o ⟨.p y, []⟩ :=
  okV0 hd fun w0 a w ro β hR => by
    have h1 : Rep w ro (a.eval x) aa := by have := hR.sv x; rw [hx] at this; exact this
    obtain ⟨cs, hcs⟩ := rep_aggA h1 hag
    obtain ⟨hn, hc⟩ := cells_rep h1
    rw [hcs] at hn hc
    obtain ⟨v, hv, hr⟩ := part_ok hP hl hn hc
    refine ⟨v, ?_, hr⟩
    obtain ⟨fs, fd, i, g1, g2, g3, g4, g5, g6⟩ := fld_spec hf
    subst g3 g4
    simp only [execOp, ho, hcs]
    refine run_val (α := Unit) ?_
    unfold Instr.field
    rw [run_bind_ok (pr_under g1 w)]
    simp only [g2]
    rw [run_bind_ok (x := cs) (w' := w) rfl]
    exact hv

theorem byIx_ok {ρ : Type} {i : Int} {K : Nat → Option ρ} {r : ρ} : ∀ (n c : Nat), byIx i K n c = some r → ∃ m : Nat, i = (m : Int) ∧ m < c + n ∧ K m = some r
  | 0, _, h => by simp [byIx] at h
  | n + 1, c, h => by
    simp only [byIx] at h
    split at h
    · rename_i hi; exact ⟨c, hi, by omega, h⟩
    · obtain ⟨m, h1, h2, h3⟩ := byIx_ok n (c + 1) h; exact ⟨m, h1, by omega, h3⟩

theorem ok_index (hP : cx.P = P) {t el : TypeId} {x i : Operand} {n z m : Nat} {k : IntKind} {aa y : AV} (ho : o.op = .index t x i) (hi : sv g i = .p (.v (.int k (m : Int)))) (ht : P.underlying t = some (.array n el)) (hx : sv g x = .p aa) (hag : aggA aa = true) (hz : szP P el = some z) (hm : m < n) (hl : ldv cx el ((cellsA aa).drop (m * z)) = some y) (hd : ∀ d, o.dst = some d → d < N) : Okk P N g gB o ⟨.p y, []⟩ :=
  okV0 hd fun w0 a w ro β hR => by
    have h1 : Rep w ro (a.eval x) aa := by have := hR.sv x; rw [hx] at this; exact this
    have h2 : a.eval i = .int k (m : Int) := by have := hR.sv i; rw [hi] at this; exact rep_v_inv this
    obtain ⟨cs, hcs⟩ := rep_aggA h1 hag
    obtain ⟨hn, hc⟩ := cells_rep h1
    rw [hcs] at hn hc
    obtain ⟨v, hv, hr⟩ := part_ok hP hl hn hc
    refine ⟨v, ?_, hr⟩
    simp only [execOp, ho, hcs, h2]
    refine run_val (α := Unit) ?_
    unfold Instr.index
    rw [run_bind_ok (x := (k, (m : Int))) (w' := w) rfl]
    simp only
    rw [run_bind_ok (pr_under ht w)]
    simp only
    rw [if_pos ⟨by omega, by omega⟩, run_bind_ok (pr_size hz w)]
    simpa [Value.cells] using hv

theorem ok_indexAddr {t el : TypeId} {x i : Operand} {k : IntKind} {i' : Int} (ho : o.op = .indexAddr t x i) (hi : sv g i = .p (.v (.int k i'))) (ht : P.underlying t = some (.slice el)) {z : Nat} (hz : szP P el = some z) {r : SV} (h0 : 0 ≤ i')
    (hx : (∃ e, ∃ l : List (El.T e), z = e.z ∧ sv g x = .p (.sl e l) ∧ i' < (l.length : Int) ∧ r = .pt (e.cells (l.getD i'.toNat default))) ∨ ∃ id tt e, ∃ l : List (El.T e), z = e.z ∧ sv g x = .osl id ∧ ((gB id = some (some (.row tt e l)) ∧ r = .eref id i'.toNat 0) ∨ (gB id = some (some (.fro e l)) ∧ r = .pt (e.cells (l.getD i'.toNat default)))) ∧ i' < (l.length : Int)) (hd : ∀ d, o.dst = some d → d < N) : Okk P N g gB o ⟨r, []⟩ :=
  okV0 hd fun w0 a w ro β hR => by
    have h2 : a.eval i = .int k i' := by have := hR.sv i; rw [hi] at this; exact rep_v_inv this
    have h1 := hR.sv x
    have run : ∀ (ad : Addr) (n cap : Nat), ad.spot = none → i' < (n : Int) → (Instr.indexAt t (.slice (some ad) n cap) (.int k i')).run P w = .ok (.pointer (some ⟨ad.block, ad.off + i'.toNat * z, none⟩)) w := fun ad n cap hs hn => by
      unfold Instr.indexAt
      rw [run_bind_ok (x := (k, i')) (w' := w) rfl]
      simp only
      rw [run_bind_ok (pr_under ht w)]
      simp only
      rw [run_bind_ok (x := (some ad, n, el)) (w' := w) rfl]
      simp only
      rw [run_bind_ok (pr_under ht w)]
      simp only [Bool.and_false]
      rw [if_pos ⟨h0, hn⟩, run_bind_ok (pr_size hz w)]
      simp [addr_add hs]
    have shared : ∀ (e : El) (l : List (El.T e)) (v : Value), z = e.z → a.eval x = v → Rep w ro v (.sl e l) → i' < (l.length : Int) → r = .pt (e.cells (l.getD i'.toNat default)) → ∃ x, (execOp a.eval o).run P w = .ok (.value x) w ∧ RepS w ro β x r := fun e l v hze hv h1' hlt hr => by
      subst hze hr
      cases h1' with
      | sl A cap e l vals hcap hnil hA hrep =>
        have hj : i'.toNat < l.length := by omega
        obtain ⟨ad, rfl, hs, hro, hcell⟩ := hA _ hj
        refine ⟨_, ?_, ⟨ad.block, ad.off + i'.toNat * e.z, none⟩, rfl, rfl, hro, fun c y hy => ?_⟩
        · simp only [execOp, ho, hv, h2]
          exact run_val (α := Unit) (run ad _ cap hs hlt)
        · simp only [El.cells, List.getElem?_map] at hy
          by_cases hc : c < e.z
          · rw [List.getElem?_range hc] at hy
            simp at hy
            refine ⟨vals i'.toNat c, ?_, hy ▸ hrep _ _ hj hc⟩
            rw [← hcell c hc, Nat.add_assoc]
          · rw [List.getElem?_eq_none (by simpa using hc)] at hy; cases hy
    rcases hx with ⟨e, l, hze, hx, hlt, hr⟩ | ⟨id, tt, e, l, hze, hx, hb, hlt⟩
    · rw [hx] at h1
      exact shared e l _ hze rfl h1 hlt hr
    · rw [hx] at h1
      obtain ⟨kk, hk, hv⟩ := h1
      rcases hb with ⟨hb, hr⟩ | ⟨hb, hr⟩
      · subst hze hr
        obtain ⟨k', hk', hrep, _⟩ := hR.box id _ hb
        rw [hk] at hk'; cases hk'
        obtain ⟨htt, hz', hn, hown, xs, hrow, hcells⟩ := hrep
        have hpos : 0 < kk.n := by omega
        rcases hrow.2 with ⟨h', h0'⟩ | ⟨g', cap', cur, h', _⟩
        · omega
        · refine ⟨_, ?_, kk, g', hk, by rw [hown, h']; rfl, rfl⟩
          simp only [execOp, ho, hv, h', h2]
          refine run_val (α := Unit) ((run ⟨g', 0, none⟩ _ cap' rfl (by omega)).trans ?_)
          simp [hz']
      · obtain ⟨k', hk', hrep, _⟩ := hR.box id _ hb
        rw [hk] at hk'; cases hk'
        exact shared e l _ hze hv hrep hlt hr

theorem ok_indexArr {t el : TypeId} {x i : Operand} {k : IntKind} {id off n z m : Nat} (ho : o.op = .indexAddr t x i) (hi : sv g i = .p (.v (.int k (m : Int)))) (ht : P.underlying t = some (.array n el)) (hz : szP P el = some z) (hx : sv g x = .ref id off) (hm : m < n) (hd : ∀ d, o.dst = some d → d < N) : Okk P N g gB o ⟨.ref id (off + m * z), []⟩ :=
  okV0 hd fun w0 a w ro β hR => by
    have h2 : a.eval i = .int k (m : Int) := by have := hR.sv i; rw [hi] at this; exact rep_v_inv this
    have h1 := hR.sv x
    rw [hx] at h1
    obtain ⟨kk, b, hk, hb, e⟩ := h1
    refine ⟨.pointer (some ⟨b, off + m * z, none⟩), ?_, kk, b, hk, hb, rfl⟩
    simp only [execOp, ho, e, h2]
    refine run_val (α := Unit) ?_
    unfold Instr.indexAt
    rw [run_bind_ok (x := (k, (m : Int))) (w' := w) rfl]
    simp only
    rw [run_bind_ok (pr_under ht w)]
    simp only [Instr.sureAddr, Sem.run_bind, Sem.run_pure, Result.andThen_ok]
    rw [pr_under ht w]
    simp only [Result.andThen_ok]
    rw [if_pos ⟨by omega, by omega⟩, run_bind_ok (pr_size hz w)]
    simp [addr_add]

theorem ok_indexSub {t el : TypeId} {x i : Operand} {k : IntKind} {n z m : Nat} {r : SV} (ho : o.op = .indexAddr t x i) (hi : sv g i = .p (.v (.int k (m : Int)))) (ht : P.underlying t = some (.array n el)) (hz : szP P el = some z) (hm : m < n)
    (hx : (∃ id j c, sv g x = .eref id j c ∧ r = .eref id j (c + m * z)) ∨ ∃ xs, sv g x = .pt xs ∧ r = .pt (xs.drop (m * z))) (hd : ∀ d, o.dst = some d → d < N) : Okk P N g gB o ⟨r, []⟩ :=
  okV0 hd fun w0 a w ro β hR => by
    have h2 : a.eval i = .int k (m : Int) := by have := hR.sv i; rw [hi] at this; exact rep_v_inv this
    have h1 := hR.sv x
    have run : ∀ (ad : Addr), ad.spot = none → (Instr.indexAt t (.pointer (some ad)) (.int k (m : Int))).run P w = .ok (.pointer (some ⟨ad.block, ad.off + m * z, none⟩)) w := fun ad hs => by
      unfold Instr.indexAt
      rw [run_bind_ok (x := (k, (m : Int))) (w' := w) rfl]
      simp only
      rw [run_bind_ok (pr_under ht w)]
      simp only [Instr.sureAddr, Sem.run_bind, Sem.run_pure, Result.andThen_ok]
      rw [pr_under ht w]
      simp only [Result.andThen_ok]
      rw [if_pos ⟨by omega, by omega⟩, run_bind_ok (pr_size hz w)]
      simp [addr_add hs]
    rcases hx with ⟨id, j, c, hx, rfl⟩ | ⟨xs, hx, rfl⟩
    · rw [hx] at h1
      obtain ⟨kk, b, hk, hb, e⟩ := h1
      refine ⟨.pointer (some ⟨b, j * kk.z + c + m * z, none⟩), ?_, kk, b, hk, hb, by rw [Nat.add_assoc]⟩
      simp only [execOp, ho, e, h2]
      exact run_val (α := Unit) (run ⟨b, j * kk.z + c, none⟩ rfl)
    · rw [hx] at h1
      obtain ⟨ad, e, hs, hr, hc⟩ := h1
      refine ⟨.pointer (some ⟨ad.block, ad.off + m * z, none⟩), ?_, _, rfl, rfl, hr, fun i y hy => ?_⟩
      · simp only [execOp, ho, e, h2]
        exact run_val (α := Unit) (run ad hs)
      · rw [List.getElem?_drop] at hy
        obtain ⟨v, h2, h3⟩ := hc _ _ hy
        exact ⟨v, by rw [← h2, Nat.add_assoc], h3⟩

theorem ok_indexRix {t el : TypeId} {x i : Operand} {k : IntKind} {id off n : Nat} {i' : Int} (ho : o.op = .indexAddr t x i) (hi : sv g i = .p (.v (.int k i'))) (ht : P.underlying t = some (.array n el)) (hz : szP P el = some 1) (hx : sv g x = .ref id off) (h0 : 0 ≤ i') (h1 : i' < (n : Int)) (hd : ∀ d, o.dst = some d → d < N) : Okk P N g gB o ⟨.rix id off n i', []⟩ := by
  obtain ⟨m, rfl⟩ : ∃ m : Nat, i' = (m : Int) := ⟨i'.toNat, by omega⟩
  refine okV0 hd fun w0 a w ro β hR => ?_
  have h2 : a.eval i = .int k (m : Int) := by have := hR.sv i; rw [hi] at this; exact rep_v_inv this
  have h3 := hR.sv x
  rw [hx] at h3
  obtain ⟨kk, b, hk, hb, e⟩ := h3
  refine ⟨.pointer (some ⟨b, off + m, none⟩), ?_, kk, b, hk, hb, rfl, h0, h1⟩
  simp only [execOp, ho, e, h2]
  refine run_val (α := Unit) ?_
  unfold Instr.indexAt
  rw [run_bind_ok (x := (k, (m : Int))) (w' := w) rfl]
  simp only
  rw [run_bind_ok (pr_under ht w)]
  simp only [Instr.sureAddr, Sem.run_bind, Sem.run_pure, Result.andThen_ok]
  rw [pr_under ht w]
  simp only [Result.andThen_ok]
  rw [if_pos ⟨by omega, by omega⟩, run_bind_ok (pr_size hz w)]
  simp [addr_add]

theorem intsOf_get {l : List AV} {r : List Int} (h : intsOf l = some r) : l.length = r.length ∧ ∀ (i : Nat), i < r.length → l[i]? = some (.v (.int .i64 (r.getD i 0))) := by
  induction l generalizing r with
  | nil => simp [intsOf] at h; subst h; exact ⟨rfl, fun i hi => by simp at hi⟩
  | cons x l ih =>
    unfold intsOf at h
    split at h
    · rename_i e; cases e
    · rename_i a l' e
      cases e
      split at h
      · rename_i r' hr
        cases h
        obtain ⟨h1, h2⟩ := ih hr
        refine ⟨by simp [h1], fun i hi => ?_⟩
        cases i with
        | zero => rfl
        | succ i => simpa using h2 i (by simpa using hi)
      · cases h
    · cases h

theorem ok_load_rix {t : TypeId} {x : Operand} {id off n : Nat} {i' : Int} {xs : List AV} {l : List Int} (ho : o.op = .load t x) (hx : sv g x = .rix id off n i') (hb : gB id = some (some (.vr xs))) (hag : agP P t = some false) (hl : intsOf ((xs.drop off).take n) = some l) (hn : l.length = n) (hd : ∀ d, o.dst = some d → d < N) : Okk P N g gB o ⟨.p (.v (.int .i64 (sel l i'))), []⟩ :=
  okV0 hd fun w0 a w ro β hR => by
    have h3 := hR.sv x
    rw [hx] at h3
    obtain ⟨kk, b, hk, hbk, e, h0, h1⟩ := h3
    obtain ⟨k', hk', hrep, _⟩ := hR.box id _ hb
    rw [hk] at hk'; cases hk'
    obtain ⟨b', c, tt, hb', hheap, hsz, hcells⟩ := hrep
    rw [hbk] at hb'; cases hb'
    obtain ⟨m, rfl⟩ : ∃ m : Nat, i' = (m : Int) := ⟨i'.toNat, by omega⟩
    obtain ⟨g1, g2⟩ := intsOf_get hl
    have hm : m < l.length := by omega
    have h4 := g2 m hm
    rw [List.getElem?_take, if_pos (by omega), List.getElem?_drop] at h4
    obtain ⟨z, hz, hr⟩ := hcells _ _ h4
    have hz' := rep_v_inv hr
    subst hz'
    refine ⟨.int .i64 (l.getD m 0), ?_, .v _⟩
    simp only [execOp, ho, e, Instr.loadAt, Instr.sureAddr]
    refine run_val (α := Unit) ?_
    rw [run_bind_ok (x := (⟨b, off + (m : Int).toNat, none⟩ : Addr)) (w' := w) rfl]
    unfold loadVar
    rw [run_bind_ok (pr_agg hag w)]
    have hcell : w.cell? ⟨b, off + m, none⟩ = some (.int .i64 (l.getD m 0)) := by simp [World.cell?, hheap]; simpa using hz
    simp only [Bool.false_eq_true, if_false, run_load, Int.toNat_natCast, hcell]

theorem ok_indexSel {t el : TypeId} {x i : Operand} {n : Nat} {i' : Int} {k : IntKind} {aa : AV} {l : List Int} (ho : o.op = .index t x i) (hi : sv g i = .p (.v (.int k i'))) (ht : P.underlying t = some (.array n el)) (hx : sv g x = .p aa) (hag : aggA aa = true) (hz : szP P el = some 1) (hag2 : agP P el = some false) (hl : intsOf (cellsA aa) = some l) (hn : l.length = n) (h0 : 0 ≤ i') (h1 : i' < (n : Int)) (hd : ∀ d, o.dst = some d → d < N) : Okk P N g gB o ⟨.p (.v (.int .i64 (sel l i'))), []⟩ :=
  okV0 hd fun w0 a w ro β hR => by
    have h3 : Rep w ro (a.eval x) aa := by have := hR.sv x; rw [hx] at this; exact this
    have h2 : a.eval i = .int k i' := by have := hR.sv i; rw [hi] at this; exact rep_v_inv this
    obtain ⟨m, rfl⟩ : ∃ m : Nat, i' = (m : Int) := ⟨i'.toNat, by omega⟩
    obtain ⟨cs, hcs⟩ := rep_aggA h3 hag
    obtain ⟨hnn, hc⟩ := cells_rep h3
    rw [hcs] at hnn hc
    obtain ⟨g1, g2⟩ := intsOf_get hl
    have hm : m < l.length := by omega
    have h4 := g2 m hm
    have hmc : m < cs.size := by simp only [Value.cells] at hnn; omega
    have h5 := hc m cs[m] _ (by simp [Value.cells, hmc]) h4
    have h6 := rep_v_inv h5
    refine ⟨.int .i64 (l.getD m 0), ?_, .v _⟩
    simp only [execOp, ho, hcs, h2]
    refine run_val (α := Unit) ?_
    unfold Instr.index
    rw [run_bind_ok (x := (k, (m : Int))) (w' := w) rfl]
    simp only
    rw [run_bind_ok (pr_under ht w)]
    simp only
    rw [if_pos ⟨by omega, by omega⟩, run_bind_ok (pr_size hz w)]
    unfold part
    rw [run_bind_ok (pr_agg hag2 w)]
    simp [hmc, h6]

theorem ok_extract {x : Operand} {i : Nat} {xs : List AV} {y : AV} (ho : o.op = .extract x i) (hx : sv g x = .tup xs) (hy : xs[i]? = some y) (hd : ∀ d, o.dst = some d → d < N) : Okk P N g gB o ⟨.p y, []⟩ :=
  okV0 hd fun w0 a w ro β hR => by
    have h1 := hR.sv x
    rw [hx] at h1
    obtain ⟨vs, e, hn, hc⟩ := h1
    have hi : i < vs.size := by rw [hn]; exact (List.getElem?_eq_some_iff.1 hy).1
    refine ⟨vs[i], ?_, hc i _ _ (by simp [hi]) hy⟩
    simp only [execOp, ho, e]
    refine run_val (α := Unit) ?_
    simp [Instr.extract, hi]

theorem ok_div {k : IntKind} {t t' : TypeId} {x y : Operand} {a' b' : Int} {op : BinOp} {r : Int} (ho : o.op = .binOp op t x y t') (hop : (op = .quo ∧ r = k.wrap (a'.tdiv b')) ∨ (op = .rem ∧ r = a'.tmod b')) (hx : sv g x = .p (.v (.int k a'))) (hy : sv g y = .p (.v (.int k b'))) (hb : ¬ b' = 0) (hd : ∀ d, o.dst = some d → d < N) : Okk P N g gB o ⟨.p (.v (.int k r)), []⟩ :=
  okV0 hd fun w0 a w ro β hR => by
    have h1 : a.eval x = .int k a' := by have := hR.sv x; rw [hx] at this; exact rep_v_inv this
    have h2 : a.eval y = .int k b' := by have := hR.sv y; rw [hy] at this; exact rep_v_inv this
    refine ⟨.int k r, ?_, .v _⟩
    simp only [execOp, ho, h1, h2]
    refine run_val (α := Unit) ?_
    rcases hop with ⟨rfl, rfl⟩ | ⟨rfl, rfl⟩ <;> simp [eqGuard, binOp, Op.intDiv, hb]

theorem ok_pure {x : Value} (hs : ∀ cs b, o.op ≠ .select cs b) (hex : o.op.operands.toList.all (exact g) = true) (h : pureRun P (execOp (rho g) o) = some (.value x)) (hd : ∀ d, o.dst = some d → d < N) : Okk P N g gB o ⟨.p (.v x), []⟩ :=
  okV0 hd fun w0 a w ro β hR => by
    refine ⟨x, ?_, .v _⟩
    rw [execOp_congr (ρ' := rho g) o hs]
    · exact run_pureRun h w
    · intro y hy
      have h1 := List.all_eq_true.1 hex y (by simpa using hy)
      have h2 := hR.sv y
      unfold exact at h1
      unfold rho
      split at h1
      · rename_i v hv
        rw [hv] at h2; exact rep_v_inv h2
      · cases h1

theorem ok_len {x : Operand} {c : Call} {t el : TypeId} {n : Nat} (ho : o.op = .call c) (hc : c.callee = .builtin .len) (hargs : c.args.toList = [x]) (ht : c.argTypes[0]? = some t) (hu : P.underlying t = some (.slice el))
    (hx : (∃ e, ∃ l : List (El.T e), sv g x = .p (.sl e l) ∧ n = l.length) ∨ ∃ id tt e, ∃ l : List (El.T e), sv g x = .osl id ∧ (gB id = some (some (.row tt e l)) ∨ gB id = some (some (.fro e l))) ∧ n = l.length) (hd : ∀ d, o.dst = some d → d < N) : Okk P N g gB o ⟨.p (.v (.int .i64 n)), []⟩ :=
  okV0 hd fun w0 a w ro β hR => by
    have hv : ∃ A cap, a.eval x = .slice A n cap := by
      have h1 := hR.sv x
      rcases hx with ⟨e, l, hx, rfl⟩ | ⟨id, tt, e, l, hx, hb, rfl⟩
      · rw [hx] at h1
        have h1' : Rep w ro (a.eval x) (.sl e l) := h1
        generalize a.eval x = v at h1'
        cases h1' with
        | sl A cap => exact ⟨A, cap, rfl⟩
      · rw [hx] at h1
        obtain ⟨kk, hk, hv⟩ := h1
        rcases hb with hb | hb
        · obtain ⟨k', hk', hrep, _⟩ := hR.box id _ hb
          rw [hk] at hk'; cases hk'
          obtain ⟨htt, hz', hn, hown, xs, hrow, hcells⟩ := hrep
          rcases hrow.2 with ⟨h', h0'⟩ | ⟨g', cap', cur, h', _⟩
          · exact ⟨none, 0, by rw [hv, h', ← hn, h0']⟩
          · exact ⟨_, cap', by rw [hv, h', ← hn]⟩
        · obtain ⟨k', hk', hrep, _⟩ := hR.box id _ hb
          rw [hk] at hk'; cases hk'
          rw [hv]
          have h1' : Rep w ro kk.v (.sl e l) := hrep
          generalize kk.v = v at h1'
          cases h1' with
          | sl A cap => exact ⟨A, cap, rfl⟩
    obtain ⟨A, cap, hv⟩ := hv
    refine ⟨.int .i64 n, ?_, .v _⟩
    have hargs' : c.args = #[x] := by rw [← Array.toList_inj]; simpa using hargs
    simp only [execOp, ho, resolve, hc, hargs', List.map_toArray, List.map_cons, List.map_nil, hv, Sem.run_bind, Sem.run_pure, Result.andThen_ok, invoke, builtin]
    unfold Builtin.len_
    simp only [ht]
    simp only [List.getElem?_toArray, List.getElem?_cons_zero]
    rw [run_bind_ok (pr_under hu w)]
    rfl
theorem eqL_cons {x y : Value} {r s : List Value} {q : Bool} (h : eqL (x :: r) (y :: s) = some q) : ∃ b, ((∃ k a c, x = .int k a ∧ y = .int k c ∧ b = (a == c)) ∨ ∃ a c, x = .bool a ∧ y = .bool c ∧ b = (a == c)) ∧ ((r = [] ∧ s = [] ∧ q = b) ∨ ∃ q', eqL r s = some q' ∧ q = (b && q')) := by
  unfold eqL at h
  split at h
  · rename_i e1 e2
    cases e1; cases e2
    split at h
    · rename_i hk; cases h; subst hk; exact ⟨_, .inl ⟨_, _, _, rfl, rfl, rfl⟩, .inl ⟨rfl, rfl, rfl⟩⟩
    · cases h
  · rename_i e1 e2
    cases e1; cases e2; cases h
    exact ⟨_, .inr ⟨_, _, rfl, rfl, rfl⟩, .inl ⟨rfl, rfl, rfl⟩⟩
  · rename_i e1 e2
    cases e1; cases e2
    split at h
    · rename_i hk
      subst hk
      split at h
      · rename_i q' hq; cases h; exact ⟨_, .inl ⟨_, _, _, rfl, rfl, rfl⟩, .inr ⟨q', hq, rfl⟩⟩
      · cases h
    · cases h
  · rename_i e1 e2
    cases e1; cases e2
    split at h
    · rename_i q' hq; cases h; exact ⟨_, .inr ⟨_, _, rfl, rfl, rfl⟩, .inr ⟨q', hq, rfl⟩⟩
    · cases h
  · cases h

theorem run_part {t : TypeId} (ht : agP P t = some false) {cs : Array Value} {k : Nat} {v : Value} (h : cs[k]? = some v) (w : World) : (part t cs k).run P w = .ok v w := by
  unfold part
  rw [run_bind_ok (pr_agg ht w)]
  simp only [Bool.false_eq_true, if_false, h]
  rfl

theorem fit_cons {t : TypeId} {ts : List TypeId} {x : Value} {r : List Value} (h : fitL P (t :: ts) (x :: r) = true) : agP P t = some false ∧ fitL P ts r = true ∧ ∀ (y : Value) (b : Bool), ((∃ k a c, x = .int k a ∧ y = .int k c ∧ b = (a == c)) ∨ ∃ a c, x = .bool a ∧ y = .bool c ∧ b = (a == c)) → ∀ (d : Nat) (w : World), (Op.equalIn (d + 1) t x y).run P w = .ok b w := by
  cases x with
  | int k a =>
    simp only [fitL] at h
    split at h
    · rename_i k' hk
      refine ⟨by simp [agP, hk], h, fun y b hb d w => ?_⟩
      rcases hb with ⟨k2, a2, c, e, rfl, rfl⟩ | ⟨a2, c, e, _⟩
      · cases e; exact run_equalIn_int w d t _ k' _ c hk
      · cases e
    · cases h
  | bool a =>
    simp only [fitL] at h
    split at h
    · rename_i hk
      refine ⟨by simp [agP, hk], h, fun y b hb d w => ?_⟩
      rcases hb with ⟨k2, a2, c, e, _⟩ | ⟨a2, c, e, rfl, rfl⟩
      · cases e
      · cases e; exact run_equalIn_bool' w d t _ c hk
    · cases h
  | _ => simp [fitL] at h

theorem drop_cons {α : Type} {l r : List α} {x : α} {i : Nat} (h : l.drop i = x :: r) : l[i]? = some x ∧ l.drop (i + 1) = r := by
  refine ⟨?_, ?_⟩
  · have := congrArg (fun q => q[0]?) h
    simpa using this
  · rw [← List.drop_drop, h]; rfl

theorem eqFields_ok (xs ys : Array Value) (d : Nat) (w : World) : ∀ (fs : List Field) (i : Nat) (xr yr : List Value) (q : Bool), xs.toList.drop i = xr → ys.toList.drop i = yr → fieldsB i fs = true → fitL P (fs.map (·.type)) xr = true → eqL xr yr = some q → (Op.eqFields (d + 1) xs ys fs).run P w = .ok q w
  | [], i, xr, yr, q, hx, hy, hb, hf, he => by
    cases xr with
    | nil => simp [eqL] at he
    | cons x r => simp [fitL] at hf
  | f :: fs, i, xr, yr, q, hx, hy, hb, hf, he => by
    cases xr with
    | nil => cases yr <;> simp [eqL] at he
    | cons x r =>
      cases yr with
      | nil => cases x <;> cases r <;> simp [eqL] at he
      | cons y s =>
        simp only [fieldsB] at hb
        split at hb
        · rename_i h1 h2
          have ho := beq_iff.1 h2
          obtain ⟨hag, hf', hcell⟩ := fit_cons hf
          obtain ⟨x1, x2⟩ := drop_cons hx
          obtain ⟨y1, y2⟩ := drop_cons hy
          obtain ⟨b, hbb, hq⟩ := eqL_cons he
          have hname : f.name ≠ "_" := by simpa using h1
          simp only [Op.eqFields, if_pos hname]
          rw [run_bind_ok (run_part hag (by rw [ho]; simpa using x1) w), run_bind_ok (run_part hag (by rw [ho]; simpa using y1) w), run_bind_ok (hcell y b hbb d w)]
          rcases hq with ⟨rfl, rfl, rfl⟩ | ⟨q', hq', rfl⟩
          · have hfs : fs = [] := by
              cases fs with
              | nil => rfl
              | cons f' fs => simp [fitL] at hf'
            subst hfs
            cases q <;> rfl
          · have ih := eqFields_ok xs ys d w fs (i + 1) r s q' x2 y2 hb hf' hq'
            cases b
            · rfl
            · simp only [Bool.not_true, Bool.false_eq_true, if_false, Bool.true_and]; exact ih
        · cases hb

theorem eqItems_ok (xs ys : Array Value) (e : TypeId) (d : Nat) (w : World) : ∀ (m i : Nat) (xr yr : List Value) (q : Bool), xs.toList.drop i = xr → ys.toList.drop i = yr → fitL P (List.replicate m e) xr = true → eqL xr yr = some q → (Op.eqItems (d + 1) e 1 xs ys (List.range' i m)).run P w = .ok q w
  | 0, i, xr, yr, q, hx, hy, hf, he => by
    cases xr with
    | nil => simp [eqL] at he
    | cons x r => simp [fitL] at hf
  | m + 1, i, xr, yr, q, hx, hy, hf, he => by
    cases xr with
    | nil => cases yr <;> simp [eqL] at he
    | cons x r =>
      cases yr with
      | nil => cases x <;> cases r <;> simp [eqL] at he
      | cons y s =>
        obtain ⟨hag, hf', hcell⟩ := fit_cons hf
        obtain ⟨x1, x2⟩ := drop_cons hx
        obtain ⟨y1, y2⟩ := drop_cons hy
        obtain ⟨b, hbb, hq⟩ := eqL_cons he
        rw [List.range'_succ]
        simp only [Op.eqItems, Nat.mul_one]
        rw [run_bind_ok (run_part hag (by simpa using x1) w), run_bind_ok (run_part hag (by simpa using y1) w), run_bind_ok (hcell y b hbb d w)]
        rcases hq with ⟨rfl, rfl, rfl⟩ | ⟨q', hq', rfl⟩
        · have hm : m = 0 := by
            cases m with
            | zero => rfl
            | succ m => simp [List.replicate_succ, fitL] at hf'
          subst hm
          cases q <;> rfl
        · have ih := eqItems_ok xs ys e d w m (i + 1) r s q' x2 y2 hf' hq'
          cases b
          · rfl
          · simp only [Bool.not_true, Bool.false_eq_true, if_false, Bool.true_and]; exact ih

theorem eqT_run {t : TypeId} {xs ys : Array Value} {q : Bool} (ht : eqT P t xs.toList = true) (he : eqL xs.toList ys.toList = some q) (w : World) : P.eqGuardType P.depth t = false ∧ (Op.equalIn 10000 t (.agg xs) (.agg ys)).run P w = .ok q w := by
  unfold eqT at ht
  split at ht
  · cases ht
  · rename_i hg
    refine ⟨hg, ?_⟩
    split at ht
    · rename_i fs hu
      split at ht
      · rename_i hs hb
        have hfo : P.fieldsOf t = fs := by simp [Program.fieldsOf, hu]
        rw [run_equalIn_struct w 9999 t xs ys (by rw [hfo]; exact hu) hs, hfo]
        exact eqFields_ok xs ys 9998 w fs.toList 0 _ _ q rfl rfl hb (by simpa using ht) (by simpa using he)
      · cases ht
    · rename_i m e hu
      split at ht
      · rename_i i hi
        split at ht
        · rename_i h1
          have h1 := beq_iff.1 h1
          rw [run_equalIn_array w 9999 xs ys hu hi]
          have hc : P.cellsOf e = 1 := by simp [Program.cellsOf, hi, h1]
          rw [hc, List.range_eq_range']
          exact eqItems_ok xs ys e 9998 w m 0 _ _ q rfl rfl (by simpa using ht) (by simpa using he)
        · cases ht
      · cases ht
    · cases ht

theorem ok_eqAgg {t t' : TypeId} {x y : Operand} {xs ys : Array Value} {q : Bool} (hx : sv g x = .p (.v (.agg xs))) (hy : sv g y = .p (.v (.agg ys))) (ht : eqT P t xs.toList = true) (he : eqL xs.toList ys.toList = some q) (hd : ∀ d, o.dst = some d → d < N) {r : Bool}
    (ho : (o.op = .binOp .eql t x y t' ∧ r = q) ∨ (o.op = .binOp .neq t x y t' ∧ r = !q)) : Okk P N g gB o ⟨.p (.v (.bool r)), []⟩ :=
  okV0 hd fun w0 a w ro β hR => by
    have h1 : a.eval x = .agg xs := by have := hR.sv x; rw [hx] at this; exact rep_v_inv this
    have h2 : a.eval y = .agg ys := by have := hR.sv y; rw [hy] at this; exact rep_v_inv this
    obtain ⟨hg, hrun⟩ := eqT_run (P := P) ht he w
    refine ⟨.bool r, ?_, .v _⟩
    rcases ho with ⟨ho, rfl⟩ | ⟨ho, rfl⟩
    · simp only [execOp, ho, h1, h2]
      refine run_val (α := Unit) ?_
      rw [run_bind_ok (run_eqGuard_agg w .eql t x y xs ys hg), run_eql_struct w t xs ys, hrun]; rfl
    · simp only [execOp, ho, h1, h2]
      refine run_val (α := Unit) ?_
      rw [run_bind_ok (run_eqGuard_agg w .neq t x y xs ys hg), run_neq_struct w t xs ys, hrun]; rfl

/-- a row with elements is not nil. -/
theorem ok_neNil {t t' el : TypeId} {x y : Operand} {id : Nat} {tt : TypeId} {e : El} {l : List e.T} (hx : sv g x = .osl id) (hy : sv g y = .p (.v (.slice none 0 0))) (hb : gB id = some (some (.row tt e l))) (hl : ¬ l.isEmpty = true) (ht : P.underlying t = some (.slice el)) (hd : ∀ d, o.dst = some d → d < N) {r : Bool}
    (ho : (o.op = .binOp .eql t x y t' ∧ r = false) ∨ (o.op = .binOp .neq t x y t' ∧ r = true)) : Okk P N g gB o ⟨.p (.v (.bool r)), []⟩ :=
  okV0 hd fun w0 a w ro β hR => by
    have h2 : a.eval y = .slice none 0 0 := by have := hR.sv y; rw [hy] at this; exact rep_v_inv this
    obtain ⟨ad, n, cp, h1⟩ : ∃ ad n cp, a.eval x = .slice (some ad) n cp := by
      have hs := hR.sv x
      rw [hx] at hs
      obtain ⟨k, hk, hv⟩ := hs
      obtain ⟨k', hk', ⟨_, _, hn, _, xs, hrow, _⟩, _⟩ := hR.box id _ hb
      rw [hk] at hk'; cases hk'
      rcases hrow.2 with ⟨_, h0⟩ | ⟨gg, cap, cur, hv2, _⟩
      · exfalso; apply hl
        have : l.length = 0 := by omega
        rw [List.eq_nil_of_length_eq_zero this]; rfl
      · exact ⟨_, _, _, hv.trans hv2⟩
    refine ⟨.bool r, ?_, .v _⟩
    rcases ho with ⟨ho, rfl⟩ | ⟨ho, rfl⟩
    · simp only [execOp, ho, h1, h2]
      refine run_val (α := Unit) ?_
      rw [Go.eqGuard_at_slice]
      simp only [binOp, Sem.run_bind, Sem.run_pure, Result.andThen_ok, run_equal_slice_nil w t el (some ad) n cp ht]
      rfl
    · simp only [execOp, ho, h1, h2]
      refine run_val (α := Unit) ?_
      rw [Go.eqGuard_at_slice]
      simp only [Sem.run_bind, Sem.run_pure, Result.andThen_ok, run_neq_slice_nil w t el (some ad) n cp ht]
      rfl
end
end Go.Proofs.YtalkkenkeilmpaaGreat.Ev
