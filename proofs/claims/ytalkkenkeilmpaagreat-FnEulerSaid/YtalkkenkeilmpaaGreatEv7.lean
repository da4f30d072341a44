/- What the evaluator tells of one operation is what the model does: stores, cuts, calls. -/
import Derived.Test.YtalkkenkeilmpaaGreatEv6
namespace Go.Proofs.YtalkkenkeilmpaaGreat.Ev
open Go Go.RowKit
set_option linter.unusedVariables false
set_option linter.unusedSimpArgs false

theorem spl_get {α : Type} {xs ys : List α} {off k : Nat} (h : off + ys.length ≤ xs.length) : (xs.take off ++ ys ++ xs.drop (off + ys.length))[k]? = if k < off then xs[k]? else if k < off + ys.length then ys[k - off]? else xs[k]? := by
  by_cases h1 : k < off
  · rw [if_pos h1, List.append_assoc, List.getElem?_append_left (by simp; omega), List.getElem?_take, if_pos h1]
  · rw [if_neg h1]
    by_cases h2 : k < off + ys.length
    · rw [if_pos h2, List.getElem?_append_left (by simp; omega), List.getElem?_append_right (by simp; omega)]
      congr 1; simp; omega
    · rw [if_neg h2, List.getElem?_append_right (by simp; omega), List.getElem?_drop]
      congr 1; simp; omega
theorem spl_len {α : Type} {xs ys : List α} {off : Nat} (h : off + ys.length ≤ xs.length) : (xs.take off ++ ys ++ xs.drop (off + ys.length)).length = xs.length := by
  simp; omega

section
variable {P : Program} {N : Nat} {g : Nat → SV} {gB : Nat → Option (Option Box)} {o : Oper} {u : Upd} {cx : Cx Upd}

theorem run_storeAt {t tt : TypeId} {v : Value} {b off : Nat} {cur : Array Value} {w : World} (hs : szP P t = some v.cells.size) (hh : w.heap[b]? = some (.cells cur tt (0, 0))) (hfit : off + v.cells.size ≤ cur.size) (h1 : ∀ x ∈ v.cells.toList, x.oneCell' = true) :
    (Instr.storeAt t (.pointer (some ⟨b, off, none⟩)) v).run P w = .ok () (w.setRow b (cur.toList.take off ++ v.cells.toList ++ cur.toList.drop (off + v.cells.toList.length)).toArray) := by
  unfold Instr.storeAt
  rw [run_bind_ok (x := (⟨b, off, none⟩ : Addr)) (w' := w) rfl]
  unfold storeVar
  rw [run_bind_ok (pr_size hs w)]
  simp only [ne_eq, not_true_eq_false, if_false]
  have := run_storeCells_at P b off tt v.cells.toList 0 cur w hh (by simpa using hfit) h1
  simpa using this

theorem flat_cells {w : World} {ro : Nat → Prop} {v : Value} {y : AV} (h : Rep w ro v y) (hf : (cellsA y).all flat = true) : ∀ x ∈ v.cells.toList, x.oneCell' = true := by
  obtain ⟨hn, hc⟩ := cells_rep h
  intro x hx
  obtain ⟨i, hi, rfl⟩ := List.getElem_of_mem hx
  have hi' : i < v.cells.size := by simpa using hi
  have hy := List.getElem?_eq_getElem (show i < (cellsA y).length by omega)
  exact rep_one (hc i _ _ (by simp [hi']) hy) (List.all_eq_true.1 hf _ (List.mem_of_getElem? hy))

theorem ok_store_sol {t : TypeId} {x y : Operand} {id off kid len : Nat} {bx : Box} {ys : List Value} (ho : o.op = .store t x y) (hx : sv g x = .ref id off) (hb : gB id = some (some bx)) (hbx : (∃ xs, bx = .vr xs ∧ xs.length = len) ∨ ∃ k0 xs, bx = .vq k0 xs ∧ xs.length + 1 = len)
    (hq : stQ g gB id off y (szP P t) len = some (kid, ys)) (hd : ∀ d, o.dst = some d → d < N) : Okk P N g gB o ⟨.dead, [(id, some (.vq kid ys))]⟩ := by
  unfold stQ at hq
  split at hq
  · rename_i hy hn ho0 hX
    split at hq
    · rename_i lk hbk hn1 hn2 hfl
      cases hq
      have ho0 := beq_iff.1 ho0; subst ho0
      have hn1 := beq_iff.1 hn1
      have hn2 := beq_iff.1 hn2
      intro w0 a w K Q hR hK
      obtain ⟨ro, β, hR⟩ := hR
      obtain ⟨k, hk, hrep, hown⟩ := hR.box id bx hb
      obtain ⟨kk, hkk, hrepk, _⟩ := hR.box kid _ hbk
      have hxv := hR.sv x
      rw [hx] at hxv
      obtain ⟨k', b, hk', hkb, e⟩ := hxv
      rw [hk] at hk'; cases hk'
      have hyv := hR.sv y
      rw [hy] at hyv
      obtain ⟨kk', hkk', ey⟩ := hyv
      rw [hkk] at hkk'; cases hkk'
      obtain ⟨c, tt, hheap, hsz⟩ : ∃ c tt, w.heap[b]? = some (.cells c tt (0, 0)) ∧ c.size = len := by
        rcases hbx with ⟨xs, rfl, hl⟩ | ⟨k0, xs, rfl, hl⟩
        · obtain ⟨b', c, tt, h1, h2, h3, _⟩ := hrep
          rw [hkb] at h1; cases h1
          exact ⟨c, tt, h2, by omega⟩
        · obtain ⟨b', c, tt, h1, h2, h3⟩ := hrep
          rw [hkb] at h1; cases h1
          refine ⟨c, tt, h2, ?_⟩
          have := congrArg List.length h3
          rw [List.length_append, List.length_singleton, Array.length_toList] at this
          omega
      have hcells : (a.eval y).cells.toList = ys ++ [kk.v] := by rw [ey]; rfl
      have hlen : (a.eval y).cells.size = len := by
        have := congrArg List.length hcells
        rw [List.length_append, List.length_singleton, Array.length_toList] at this
        omega
      have one : ∀ x ∈ (a.eval y).cells.toList, x.oneCell' = true := fun x hx => by
        rw [hcells] at hx
        rcases List.mem_append.1 hx with h | h
        · have := List.all_eq_true.1 hfl (.v x) (List.mem_map.2 ⟨x, h, rfl⟩)
          exact rep_one (w := w) (ro := ro) (.v x) this
        · simp only [List.mem_singleton] at h; subst h
          have hb' := hrepk.1
          generalize kk.fp = fp, kk.v = v at hb'
          cases hb' <;> rfl
      have hrun := run_storeAt (P := P) (t := t) (v := a.eval y) (off := 0) (w := w) (by rw [hlen, ← hn1]; exact hn) hheap (by omega) one
      have hbk' : bx.kind = .one := by rcases hbx with ⟨xs, rfl, _⟩ | ⟨k0, xs, rfl, _⟩ <;> rfl
      have hrow : c.toList.take 0 ++ (a.eval y).cells.toList ++ c.toList.drop (0 + (a.eval y).cells.toList.length) = ys ++ [kk.v] := by
        rw [List.take_zero, List.nil_append, hcells, List.drop_eq_nil_of_le, List.append_nil]
        rw [Nat.zero_add, List.length_append, List.length_singleton, Array.length_toList]; omega
      rw [hrow] at hrun
      have hrun' : (execOp a.eval o).run P w = .ok .skip (w.setRow b (ys ++ [kk.v]).toArray) := by
        simp only [execOp, ho, e]
        rw [run_bind_ok hrun]; rfl
      have h1 := hR.storeQ (w' := w.setRow b (ys ++ [kk.v]).toArray) (xs := ys) hb hk hkk hbk' (by simp [World.setRow]) rfl rfl rfl (run_drawn _ hrun') (fun bb hbb => setRow_other w b bb _ (fun e => hbb (by rw [hkb, e]))) (fun _ => fun e => by subst e; cases hX) ⟨b, _, tt, hkb, setRow_heap w b c _ tt _ hheap, rfl⟩
      unfold Oper.wp
      rw [hrun']
      exact hK _ _ ⟨_, _, h1.put hd trivial⟩
    · cases hq
  · cases hq

/-- a store leaves this. -/
theorem okS {id : Nat} {x x' : Box} {bs : Bxs} (hx1 : x.kind = .one) (hx2 : x'.kind = .one) (hid : gB id = some (some x)) (hnb : getB bs id = none) (hd : ∀ d, o.dst = some d → d < N)
    (h : ∀ (w0 : Base) (a : Act) (w : World) (ro : Nat → Prop) (β : Nat → Option Blk), R0 w0 N g gB a w ro β → Frz gB bs ∧ ∀ k, β id = some k → BoxRep w ro 0 k x → ∃ w', (execOp a.eval o).run P w = .ok .skip w' ∧ w'.heap.size = w.heap.size ∧ w'.tape = w.tape ∧ w'.os = w.os ∧ w'.output = w.output ∧
      (∀ b, k.own ≠ some b → w'.heap[b]? = w.heap[b]?) ∧ ((∀ b, rof gB ro β bs b → w'.heap[b]? = w.heap[b]?) → BoxRep w' (rof gB ro β bs) 0 k x')) (hnv : ∀ kid xs, x' ≠ .vq kid xs := by intro _ _ h; cases h) : Okk P N g gB o ⟨.dead, (id, some x') :: bs⟩ := by
  intro w0 a w K Q hR hK
  obtain ⟨ro, β, hR⟩ := hR
  obtain ⟨hf, hh⟩ := h w0 a w ro β hR
  obtain ⟨k, hk, hrep, hown⟩ := hR.box id x hid
  obtain ⟨w', hrun, h1, h2, h3, h4, h5, h6⟩ := hh k hk hrep
  have hF := hR.freeze hf
  have hid' : updB gB bs id = some (some x) := by unfold updB; rw [hnb]; exact hid
  have hro : ∀ b, rof gB ro β bs b → w'.heap[b]? = w.heap[b]? := fun b hb => h5 b (fun e => by
    obtain ⟨k', hk', _, hx⟩ := hF.box id x hid'
    rw [hk] at hk'; cases hk'
    exact (hx b (by rw [hx1]; exact e)).2 hb)
  have hS := hF.store (w' := w') hid' hk (hx2.trans hx1.symm) h1 h2 h3 h4 (run_drawn _ hrun) (fun b hb => h5 b (fun e => hb (by rw [hx1]; exact e))) (h6 hro) hnv
  rw [← updB_cons] at hS
  unfold Oper.wp
  rw [hrun]
  exact hK _ _ ⟨_, _, hS.put hd trivial⟩

theorem ok_store_ref {t : TypeId} {x y : Operand} {id off n : Nat} {xs : List AV} {v : AV} {bs : Bxs} (ho : o.op = .store t x y) (hx : sv g x = .ref id off) (hb : gB id = some (some (.vr xs))) (hy : exF g gB y = some (v, bs)) (hn : szP P t = some n) (h1 : (cellsA v).length = n) (h2 : off + n ≤ xs.length) (h3 : (cellsA v).all flat = true) (hd : ∀ d, o.dst = some d → d < N) :
    Okk P N g gB o ⟨.dead, (id, some (.vr (splice xs off (cellsA v)))) :: bs⟩ := by
  refine okS rfl rfl hb ?_ hd fun w0 a w ro β hR => ?_
  · cases h : getB bs id with
    | none => rfl
    | some r =>
      exfalso
      unfold exF at hy
      split at hy
      · cases hy; cases h
      · split at hy
        · rename_i hh
          cases hy
          have := getB_some h
          simp at this
          obtain ⟨rfl, _⟩ := this
          rw [hb] at hh; cases hh
        · cases hy; cases h
        · cases hy
      · cases hy
  · obtain ⟨hf, hr⟩ := hR.exF hy
    refine ⟨hf, fun k hk hrep => ?_⟩
    obtain ⟨b, c, tt, hkb, hheap, hsz, hcells⟩ := hrep
    have hxv := hR.sv x
    rw [hx] at hxv
    obtain ⟨k', b', hk', hb', e⟩ := hxv
    rw [hk] at hk'; cases hk'
    rw [hkb] at hb'; cases hb'
    obtain ⟨hcn, hcc⟩ := cells_rep hr
    have hlen : (a.eval y).cells.toList.length = (cellsA v).length := by simpa using hcn
    refine ⟨w.setRow b (c.toList.take off ++ (a.eval y).cells.toList ++ c.toList.drop (off + (a.eval y).cells.toList.length)).toArray, ?_, ?_, ?_, ?_, ?_, fun bb hbb => ?_, fun hro => ?_⟩
    · have := run_storeAt (P := P) (t := t) (v := a.eval y) (off := off) (by rw [hn, hcn, h1]) hheap (by omega) (flat_cells hr h3)
      simp only [execOp, ho, e]
      rw [run_bind_ok this]; rfl
    · simp [World.setRow]
    · rfl
    · rfl
    · rfl
    · exact setRow_other w b bb _ (fun e => hbb (by rw [hkb, e]))
    · have hg : ∀ i : Nat, (c.toList.take off ++ (a.eval y).cells.toList ++ c.toList.drop (off + (a.eval y).cells.toList.length))[i]? = if i < off then c.toList[i]? else if i < off + (cellsA v).length then (a.eval y).cells.toList[i - off]? else c.toList[i]? := fun i => by
        rw [spl_get (by rw [hlen]; simp; omega), hlen]
      refine ⟨b, _, tt, hkb, setRow_heap w b c _ tt _ hheap, ?_, fun i y' hy' => ?_⟩
      · rw [List.size_toArray, spl_len (by rw [hlen]; simp; omega), splice_len (by omega)]; simpa using hsz
      · rw [splice_get (by omega)] at hy'
        rw [List.getElem?_toArray, hg i]
        by_cases g1 : i < off
        · rw [if_pos g1] at hy' ⊢
          obtain ⟨z, hz, hrz⟩ := hcells i y' hy'
          exact ⟨z, by simpa using hz, hrz.mono (fun b hb => .inl hb) (fun b hb => hro b (.inl hb))⟩
        · rw [if_neg g1] at hy' ⊢
          by_cases g2 : i < off + (cellsA v).length
          · rw [if_pos g2] at hy' ⊢
            have hi : i - off < (a.eval y).cells.size := by omega
            refine ⟨(a.eval y).cells[i - off], by simp [hi], ?_⟩
            exact (hcc (i - off) ((a.eval y).cells[i - off]) y' (by simp [hi]) hy').mono (fun b hb => hb) hro
          · rw [if_neg g2] at hy' ⊢
            obtain ⟨z, hz, hrz⟩ := hcells i y' hy'
            exact ⟨z, by simpa using hz, hrz.mono (fun b hb => .inl hb) (fun b hb => hro b (.inl hb))⟩

theorem ok_store_eref {t tt : TypeId} {x y : Operand} {id j c n : Nat} {e : El} {l : List e.T} {v : AV} {uu : e.T} {bs : Bxs} (ho : o.op = .store t x y) (hx : sv g x = .eref id j c) (hb : gB id = some (some (.row tt e l))) (hj : j < l.length) (hy : exF g gB y = some (v, bs)) (hn : szP P t = some n) (h1 : (cellsA v).length = n) (h2 : c + n ≤ e.z) (h3 : (cellsA v).all flat = true)
    (hdec : e.dec (splice (e.cells (l.getD j default)) c (cellsA v)) = some uu) (hnb : getB bs id = none) (hd : ∀ d, o.dst = some d → d < N) :
    Okk P N g gB o ⟨.dead, (id, some (.row tt e (l.set j uu))) :: bs⟩ := by
  refine okS rfl rfl hb hnb hd fun w0 a w ro β hR => ?_
  obtain ⟨hf, hr⟩ := hR.exF hy
  refine ⟨hf, fun k hk hrep => ?_⟩
  obtain ⟨htt, hzz, hkn, hown, xs, hrow, hcells⟩ := hrep
  have hxv := hR.sv x
  rw [hx] at hxv
  obtain ⟨k', b, hk', hkb, ee⟩ := hxv
  rw [hk] at hk'; cases hk'
  obtain ⟨cap, hkv⟩ := own_slice hown hkb hrow
  obtain ⟨cur, hheap, hcap, hcs, htk, hbb, hmax⟩ := row_cells (hkv ▸ hrow)
  obtain ⟨hcn, hcc⟩ := cells_rep hr
  have hlen : (a.eval y).cells.toList.length = (cellsA v).length := by simpa using hcn
  have hjn : (j + 1) * e.z ≤ k.n * e.z := Nat.mul_le_mul_right _ (by omega)
  have hnc : k.n * e.z ≤ cap * e.z := Nat.mul_le_mul_right _ hcap
  rw [Nat.add_mul, Nat.one_mul] at hjn
  have hcl : (e.cells (l.getD j default)).length = e.z := by simp [El.cells]
  have hfit : j * e.z + c + (a.eval y).cells.toList.length ≤ cur.toList.length := by rw [hlen]; simp; omega
  refine ⟨w.setRow b (cur.toList.take (j * e.z + c) ++ (a.eval y).cells.toList ++ cur.toList.drop (j * e.z + c + (a.eval y).cells.toList.length)).toArray, ?_, ?_, ?_, ?_, ?_, fun bb hbb => ?_, fun hro => ?_⟩
  · have := run_storeAt (P := P) (t := t) (v := a.eval y) (off := j * e.z + c) (by rw [hn, hcn, h1]) hheap (by omega) (flat_cells hr h3)
    simp only [execOp, ho, ee, hzz]
    rw [run_bind_ok this]; rfl
  · simp [World.setRow]
  · rfl
  · rfl
  · rfl
  · exact setRow_other w b bb _ (fun e => hbb (by rw [hkb, e]))
  · have hxl : xs.length = k.n * e.z := hrow.1
    have hget : ∀ q, q < k.n * e.z → ∀ ys : List Value, (cur.toList.take (j * e.z + c) ++ (a.eval y).cells.toList ++ cur.toList.drop (j * e.z + c + (a.eval y).cells.toList.length))[q]? = if q < j * e.z + c then xs[q]? else if q < j * e.z + c + (cellsA v).length then (a.eval y).cells.toList[q - (j * e.z + c)]? else xs[q]? := fun q hq _ => by
      rw [spl_get hfit, hlen, ← htk]
      simp only [List.getElem?_take, if_pos hq]
    refine ⟨htt, hzz, by simp [hkn], hown, (cur.toList.take (j * e.z + c) ++ (a.eval y).cells.toList ++ cur.toList.drop (j * e.z + c + (a.eval y).cells.toList.length)).take (k.n * e.z), ?_, fun j' c' hj' hc' => ?_⟩
    · rw [hkv]
      refine ⟨by rw [List.length_take, spl_len hfit]; simp; omega, .inr ⟨b, cap, _, rfl, hbb, ?_, hcap, hmax, ?_, rfl⟩⟩
      · rw [htt] at hheap ⊢
        exact setRow_heap w b cur _ tt _ hheap
      · rw [List.size_toArray, spl_len hfit]; simpa using hcs
    · simp only [List.length_set] at hj'
      have hq := lt_row (hkn ▸ hj' : j' < k.n) hc'
      rw [List.getElem?_take, if_pos hq, hget _ hq []]
      have hsp : c + (cellsA v).length ≤ (e.cells (l.getD j default)).length := by omega
      by_cases hjj : j' = j
      · subst hjj
        have hsetD : (l.set j' uu).getD j' default = uu := by simp [hj]
        rw [hsetD]
        obtain ⟨_, d2⟩ := dec_ok (w := w) (ro := rof gB ro β bs) hdec
        have old : ∃ z, xs[j' * e.z + c']? = some z ∧ Rep w ro z (e.cell (l.getD j' default) c') := hcells j' c' hj hc'
        have hcell : (e.cells (l.getD j' default))[c']? = some (e.cell (l.getD j' default) c') := by simp [El.cells, List.getElem?_range hc']
        have fin : ∀ z y', (splice (e.cells (l.getD j' default)) c (cellsA v))[c']? = some y' → Rep w (rof gB ro β bs) z y' → Rep (w.setRow b (cur.toList.take (j' * e.z + c) ++ (a.eval y).cells.toList ++ cur.toList.drop (j' * e.z + c + (a.eval y).cells.toList.length)).toArray) (rof gB ro β bs) z (e.cell uu c') := fun z y' h1 h2 => (d2 c' z y' h1 h2).mono (fun b hb => hb) hro
        by_cases g1 : c' < c
        · rw [if_pos (by omega)]
          obtain ⟨z, hz, hrz⟩ := old
          exact ⟨z, hz, fin z _ (by rw [splice_get hsp, if_pos g1, hcell]) (hrz.mono (fun b hb => .inl hb) (fun _ _ => rfl))⟩
        · rw [if_neg (by omega)]
          by_cases g2 : c' < c + (cellsA v).length
          · rw [if_pos (by omega)]
            have hi : c' - c < (a.eval y).cells.size := by omega
            have hi2 : c' - c < (cellsA v).length := by omega
            refine ⟨(a.eval y).cells[c' - c], ?_, fin _ ((cellsA v)[c' - c]) ?_ ?_⟩
            · rw [show j' * e.z + c' - (j' * e.z + c) = c' - c by omega]; simp [hi]
            · rw [splice_get hsp, if_neg g1, if_pos g2, List.getElem?_eq_getElem hi2]
            · exact hcc _ _ _ (by simp [hi]) (List.getElem?_eq_getElem hi2)
          · rw [if_neg (by omega)]
            obtain ⟨z, hz, hrz⟩ := old
            exact ⟨z, hz, fin z _ (by rw [splice_get hsp, if_neg g1, if_neg g2, hcell]) (hrz.mono (fun b hb => .inl hb) (fun _ _ => rfl))⟩
      · have hsetD : (l.set j uu).getD j' default = l.getD j' default := by simp [List.getElem?_set_ne (fun e => hjj e.symm)]
        rw [hsetD]
        obtain ⟨z, hz, hrz⟩ := hcells j' c' hj' hc'
        refine ⟨z, ?_, hrz.mono (fun b hb => .inl hb) (fun b hb => hro b (.inl hb))⟩
        rcases Nat.lt_or_gt_of_ne hjj with hlt | hgt
        · have : j' * e.z + c' < j * e.z := lt_row hlt hc'
          rw [if_pos (by omega)]; exact hz
        · have : (j + 1) * e.z ≤ j' * e.z := Nat.mul_le_mul_right _ hgt
          rw [Nat.add_mul, Nat.one_mul] at this
          rw [if_neg (by omega), if_neg (by omega)]; exact hz
end
end Go.Proofs.YtalkkenkeilmpaaGreat.Ev
