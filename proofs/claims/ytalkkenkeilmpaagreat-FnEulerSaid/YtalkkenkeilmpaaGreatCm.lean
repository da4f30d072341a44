/- slices.Compact at elements of k cells: the library's two loops walked (after the kit's walk at one cell, turned to k cells). -/
import Derived.Shelf.SlLaysE
import Derived.Shelf.SlicesE.Compact
import Derived.Shelf.SlicesQ.Reverse
import Derived.Shelf.SlSortCmp.KitK
namespace Go.Proofs.YtalkkenkeilmpaaGreat.Cm
open Go Go.Proofs Go.Shelf Go.RowKit Go.Lib Go.Sort
variable {P : Program} {ρ : Ren} {α : Type} [Inhabited α] [DecidableEq α]

structure LC43.n43 (P : Program) (ρ : Ren) : Prop where
  mixed : P.follows .mixedOrders = true
  f43 : Bears P (ρ.f 43) (SlBodyN.n43 ρ)
  t0 : P.underlying (ρ.t 0) = some (TypeDesc.tuple #[])
  a0 : ∀ w, (isAgg (ρ.t 0)).run P w = .ok false w
  z0 : ∀ w, (Go.sizeOf (ρ.t 0)).run P w = .ok 1 w
  v0 : ∀ w, (zeroValue (ρ.t 0)).run P w = .ok (Value.tuple #[]) w
  t3 : P.underlying (ρ.t 3) = some (TypeDesc.int IntKind.i64)
  a3 : ∀ w, (isAgg (ρ.t 3)).run P w = .ok false w
  z3 : ∀ w, (Go.sizeOf (ρ.t 3)).run P w = .ok 1 w
  v3 : ∀ w, (zeroValue (ρ.t 3)).run P w = .ok (Value.int IntKind.i64 0) w
  t4 : P.underlying (ρ.t 4) = some (TypeDesc.bool)
  a4 : ∀ w, (isAgg (ρ.t 4)).run P w = .ok false w
  z4 : ∀ w, (Go.sizeOf (ρ.t 4)).run P w = .ok 1 w
  v4 : ∀ w, (zeroValue (ρ.t 4)).run P w = .ok (Value.bool false) w
  t22 : P.underlying (ρ.t 22) = some (TypeDesc.slice (ρ.t 23))
  a22 : ∀ w, (isAgg (ρ.t 22)).run P w = .ok false w
  z22 : ∀ w, (Go.sizeOf (ρ.t 22)).run P w = .ok 1 w
  v22 : ∀ w, (zeroValue (ρ.t 22)).run P w = .ok (Value.slice none 0 0) w

omit [DecidableEq α] in
theorem setMany_one (enc : α → List Value) (k : Nat) (k0 : 0 < k) (hk : ∀ x, (enc x).length = k) (d : Array α) (i : Nat) (hi : i < d.size) (x : α) : setMany (flatK enc k d) (i * k) (enc x) = flatK enc k (d.setIfInBounds i x) := by
  refine ext_get! (by simp) fun t ht => ?_
  have ht' : t < d.size * k := by simpa using ht
  rw [get_setMany _ _ _ t (by simpa using ht'), get_flatK _ _ _ t ht', get_flatK _ _ _ t (by simpa using ht'), hk]
  have hd : t / k < d.size := (Nat.div_lt_iff_lt_mul k0).2 ht'
  by_cases a : t / k = i
  · rw [if_pos ((blk_iff k i t k0).2 a)]
    have e : (d.setIfInBounds i x)[t / k]! = x := by rw [a]; exact getElem!_set_same d i x hi
    rw [e]
    have : t - i * k = t % k := by rw [Nat.mod_eq_sub_div_mul, a]
    rw [this]
  · rw [if_neg (fun h => a ((blk_iff k i t k0).1 h)), getElem!_set_other d i (t / k) x a]
theorem setMany_app : ∀ (a b : List Value) (F : Array Value) (s : Nat), setMany F s (a ++ b) = setMany (setMany F s a) (s + a.length) b
  | [], b, F, s => by simp [setMany]
  | v :: a, b, F, s => by
    simp only [List.cons_append, setMany]
    rw [setMany_app a b _ (s + 1)]
    congr 1
    simp only [List.length_cons]; omega
omit [DecidableEq α] in
theorem setMany_lay (enc : α → List Value) (k : Nat) (k0 : 0 < k) (hk : ∀ x, (enc x).length = k) : ∀ (xs : List α) (d : Array α) (s : Nat), s + xs.length ≤ d.size → setMany (flatK enc k d) (s * k) (xs.flatMap enc) = flatK enc k (lay d s xs)
  | [], d, s, _ => by simp [setMany, lay]
  | x :: xs, d, s, h => by
    simp only [List.length_cons] at h
    simp only [List.flatMap_cons, lay]
    rw [setMany_app, setMany_one enc k k0 hk d s (by omega) x, hk, show s * k + k = (s + 1) * k by rw [Nat.add_mul, Nat.one_mul]]
    exact setMany_lay enc k k0 hk xs _ (s + 1) (by simp; omega)
omit [Inhabited α] [DecidableEq α] in
theorem len_flat (enc : α → List Value) (k : Nat) (hk : ∀ x, (enc x).length = k) : ∀ xs : List α, (xs.flatMap enc).length = xs.length * k
  | [] => by simp
  | x :: xs => by simp only [List.flatMap_cons, List.length_append, hk, len_flat enc k hk xs, List.length_cons, Nat.add_mul]; omega
omit [DecidableEq α] in
theorem setCells_lay (enc : α → List Value) (k : Nat) (k0 : 0 < k) (hk : ∀ x, (enc x).length = k) (w : World) (blk off : Nat) (xs : List α) (d : Array α) (s : Nat) (h : s + xs.length ≤ d.size) : (putRowK enc k w blk off d).setCells blk (off + s * k) (xs.flatMap enc) = putRowK enc k w blk off (lay d s xs) := by
  unfold putRowK
  rw [setCells_putRow, setMany_lay enc k k0 hk xs d s h]
  rw [len_flat enc k hk, size_flatK, ← Nat.add_mul]
  exact Nat.mul_le_mul_right k h
theorem zeroCells_list (z : Array Value) (n : Nat) : (Builtin.zeroCells z n).toList = (List.replicate n z.toList).flatten := by
  induction n with
  | zero => simp [Builtin.zeroCells]
  | succ n ih =>
    have e : ∀ n, (Builtin.zeroCells z n).toList = (List.range (n * z.size)).map fun i => z[i % z.size]! := fun n => by simp [Builtin.zeroCells, Array.toList_range]
    rw [e] at ih ⊢
    rw [Nat.add_mul, Nat.one_mul, List.range_add, List.map_append, ih, List.replicate_succ', List.flatten_append]
    congr 1
    simp only [List.flatten_cons, List.flatten_nil, List.append_nil, List.map_map]
    apply List.ext_getElem
    · simp
    · intro i h1 h2
      simp at h1
      simp [Nat.mod_eq_of_lt h1, h1]
theorem run_clear_k (W : World) (t e ty : TypeId) (cs : List Value) (ht : P.underlying t = some (.slice e)) (hv : ∀ w, (zeroValue e).run P w = .ok (.agg cs.toArray) w) (h1 : ∀ v ∈ cs, v.oneCell' = true) (blk off s n c : Nat) (hn : 0 < n) {F : Array Value} (hF : Holds id W blk off F) (hs : s + n * cs.length ≤ F.size) :
    (Builtin.clear_ #[t] ty #[.slice (some ⟨blk, off + s, none⟩) n c]).run P W = .ok (.tuple #[]) (W.setCells blk (off + s) (List.replicate n cs).flatten) := by
  have hzc : (Builtin.zeroCells (Value.agg cs.toArray).cells n).toList = (List.replicate n cs).flatten := by
    rw [zeroCells_list]; rfl
  have hst := stores_of_holds P hF s (List.replicate n cs).flatten (by simp; omega) (fun v hv => by
    obtain ⟨l, hl, hv⟩ := List.mem_flatten.1 hv
    rw [List.eq_of_mem_replicate hl] at hv; exact h1 v hv)
  obtain ⟨m, rfl⟩ : ∃ m, n = m + 1 := ⟨n - 1, by omega⟩
  simp [Builtin.clear_, run_underlying ht, hv, hzc, hst]
omit [Inhabited α] [DecidableEq α] in
theorem flat_rep (enc : α → List Value) (n : Nat) (z : α) : (List.replicate n (enc z)).flatten = (List.replicate n z).flatMap enc := by
  rw [List.flatMap_def, List.map_replicate]

omit [DecidableEq α] in
theorem store_k (enc : α → List Value) (k : Nat) (k0 : 0 < k) (hk : ∀ x, (enc x).length = k) (w : World) (n blk off : Nat) (dk : Array α) (i : Nat) (hi : i < dk.size) (x : α) : ((putRowK enc k (Sort.ahead w n) blk off dk).drew.setCells blk (off + i * k) (enc x)) = putRowK enc k (Sort.ahead w (n + 1)) blk off (dk.setIfInBounds i x) := by
  have := setCells_lay enc k k0 hk (Sort.ahead w (n + 1)) blk off [x] dk i (by simp; omega)
  simp only [List.flatMap_cons, List.flatMap_nil, List.append_nil, lay] at this
  exact this

set_option maxHeartbeats 4000000 in
set_option maxRecDepth 1000000 in
theorem slices_Compact (L : LC43.n43 P ρ) (k : Nat) (k0 : 0 < k) (aE : ∀ w, (isAgg (ρ.t 23)).run P w = .ok true w) (zE : ∀ w, (Go.sizeOf (ρ.t 23)).run P w = .ok k w) (enc : α → List Value) (hk : ∀ x, (enc x).length = k) (h1 : ∀ x, ∀ v ∈ enc x, v.oneCell' = true)
    (heq : EqlAt P (ρ.t 23) (fun x => .agg (enc x).toArray) (fun x y => decide (x = y))) (hne : NeqAt P (ρ.t 23) (fun x => .agg (enc x).toArray) (fun x y => decide (x = y))) (zr : α) (v23 : ∀ w, (zeroValue (ρ.t 23)).run P w = .ok (.agg (enc zr).toArray) w) (blk off cap : Nat) (d : Array α) (w : World) (hH : HoldsK enc k w blk off d) (hsz : d.size ≤ 9223372036854775807) (hcap : d.size ≤ cap) :
    Calls P (ρ.f 43) #[.slice (some ⟨blk, off, none⟩) d.size cap] w fun e w' => e = .returned (.slice (some ⟨blk, off, none⟩) (compactUpTo d d.size).length cap) ∧ ∃ q, w' = putRowK enc k (Sort.ahead w q) blk off (compactUpTo d d.size ++ List.replicate (d.size - (compactUpTo d d.size).length) zr).toArray := by
  have mixed := L.mixed; have t0 := L.t0; have a0 := L.a0; have z0 := L.z0; have v0 := L.v0; have t3 := L.t3; have a3 := L.a3; have z3 := L.z3; have v3 := L.v3; have t4 := L.t4; have a4 := L.a4; have z4 := L.z4; have v4 := L.v4; have t22 := L.t22; have a22 := L.a22; have z22 := L.z22; have v22 := L.v22
  have heq' : ∀ (x y : α) (w : World), Sem.run P (binOp .eql (ρ.t 23) (.agg (enc x).toArray) (.agg (enc y).toArray)) w = .ok (.bool (decide (x = y))) w := heq.1
  have hne' : ∀ (x y : α) (w : World), Sem.run P (binOp .neq (ρ.t 23) (.agg (enc x).toArray) (.agg (enc y).toArray)) w = .ok (.bool (!decide (x = y))) w := hne.1
  have hgd' : ∀ (op : BinOp) (a b : Operand) (x y : α) (w : World), Sem.run P (eqGuard op (ρ.t 23) a b (.agg (enc x).toArray) (.agg (enc y).toArray)) w = .ok () w := hne.2
  have same : ∀ q, (∀ j, j < d.size → keeps d j = true) → (compactUpTo d d.size).length = d.size ∧ w.drewN q = putRowK enc k (Sort.ahead w q) blk off (compactUpTo d d.size ++ List.replicate (d.size - (compactUpTo d d.size).length) zr).toArray := by
    intro q hall
    have e : compactUpTo d d.size = d.toList := by rw [compactUpTo_all d _ hall, range_map_get]
    rw [e]
    refine ⟨by simp, ?_⟩
    simp only [Array.length_toList, Nat.sub_self, List.replicate_zero, List.append_nil, Array.toArray_toList]
    exact (putRowK_self enc k (Sort.ahead w q) blk off d (holdsK_ahead enc k w q blk off d hH)).symm
  have HS : Aside (∀ q, (∀ j, j < d.size → keeps d j = true) → (compactUpTo d d.size).length = d.size ∧ w.drewN q = putRowK enc k (Sort.ahead w q) blk off (compactUpTo d d.size ++ List.replicate (d.size - (compactUpTo d d.size).length) zr).toArray) := same
  clear same
  by_cases h2 : d.size < 2
  · have HH : Aside (HoldsK enc k w blk off d) := hH
    clear hH
    obtain ⟨_, _, FG⟩ := L.f43
    go_enter FG, SlBodyN.n43_ntmps ρ
    go_wp2
    go_ret
    obtain ⟨e1, e2⟩ := HS.out 0 (fun j hj => keeps_lt_one d j (by omega))
    exact ⟨by rw [e1]; rfl, 0, e2⟩
  · obtain ⟨_, _, FG⟩ := L.f43
    go_enter FG, SlBodyN.n43_ntmps ρ
    go_wp2
    go_loopg [3] d.size (fun g s3 wr => ∃ i q : Nat, 1 ≤ i ∧ i ≤ d.size ∧ d.size - i ≤ g ∧ s3 = .int .i64 i ∧ wr = w.drewN q ∧ ∀ j, j < i → keeps d j = true)
    case atStart => exact ⟨1, 0, Nat.le_refl _, by omega, by omega, rfl, rfl, keeps_lt_one d⟩
    case round =>
      obtain ⟨i, q, hk1, hki, hg, rfl, hwr, hall⟩ := hrel
      by_cases hlt : i < d.size
      · have hHd : HoldsK enc k wr.drew blk off d := by rw [hwr]; exact holdsK_ahead enc k w (q + 1) blk off d hH
        have li : Sem.run P (loadCellsFrom ⟨blk, off + i * k, none⟩ 0 k #[]) wr.drew = .ok (enc d[i]!).toArray wr.drew := run_loadCellsFrom_list P _ _ _ k (hk _) (HoldsK.cells hHd hk (by omega))
        have lj : Sem.run P (loadCellsFrom ⟨blk, off + (i - 1) * k, none⟩ 0 k #[]) wr.drew = .ok (enc d[i - 1]!).toArray wr.drew := run_loadCellsFrom_list P _ _ _ k (hk _) (HoldsK.cells hHd hk (by omega))
        have A : Aside (∀ j, j < i → keeps d j = true) := hall
        have HH : Aside (HoldsK enc k w blk off d) := hH
        have HW : Aside (wr = w.drewN q) := hwr
        have HKK : Hid (∀ x, (enc x).length = k) := hk
        have HK1 : Hid (∀ x, ∀ v ∈ enc x, v.oneCell' = true) := h1
        clear hall hH hHd hwr hk h1
        generalize hx : d[i]! = x at li
        generalize hy : d[i - 1]! = y at lj
        have B : Aside (d[i]! = x ∧ d[i - 1]! = y) := ⟨hx, hy⟩
        clear hx hy
        by_cases hdup : x = y
        · subst hdup
          go_wp2_with fail
          go_big_region_o
          all_goals go_wp2
          clear li lj
          go_loopg [3, 5] d.size (fun g s3 s5 wr => ∃ (kk k2 q2 : Nat) (dk : Array α), s3 = .int .i64 kk ∧ s5 = .int .i64 k2 ∧ 1 ≤ k2 ∧ i + k2 ≤ d.size ∧ d.size - (i + k2) ≤ g ∧ wr = putRowK enc k (Sort.ahead w q2) blk off dk ∧ CompInv d (i + k2) kk dk)
          case atStart => exact ⟨i, 1, q + 1, d, rfl, rfl, Nat.le_refl _, by omega, by omega, by rw [HW.out]; exact (putRowK_self enc k (Sort.ahead w (q + 1)) blk off d (holdsK_ahead enc k w (q + 1) blk off d HH.out)).symm, CompInv.start A.out (keeps_neg (by omega) (by rw [B.out.1, B.out.2]))⟩
          case round =>
            obtain ⟨kk, k2, q2, dk, rfl, rfl, g1, hle, hg2, hwr2, hI⟩ := hrel
            have hkk := hI.lt
            have hds := hI.size
            have hHk : HoldsK enc k wr.drew blk off dk := by rw [hwr2]; exact holdsK_putRowK enc k _ blk off d dk (holdsK_ahead enc k w (q2 + 1) blk off d HH.out) hds
            have hHc : HoldsK enc k wr blk off dk := by rw [hwr2]; exact holdsK_putRowK enc k _ blk off d dk (holdsK_ahead enc k w q2 blk off d HH.out) hds
            have W2 : Aside (wr = putRowK enc k (Sort.ahead w q2) blk off dk) := hwr2
            have I2 : Aside (CompInv d (i + k2) kk dk) := hI
            clear hwr2
            by_cases hlt2 : i + k2 < d.size
            · have lm : Sem.run P (loadCellsFrom ⟨blk, off + i * k + k2 * k, none⟩ 0 k #[]) wr.drew = .ok (enc d[i + k2]!).toArray wr.drew := by
                have := run_loadCellsFrom_list P wr.drew ⟨blk, off + (i + k2) * k, none⟩ _ k (HKK.out _) (HoldsK.cells hHk HKK.out (by omega))
                rw [hI.high (i + k2) (by omega), Nat.add_mul, ← Nat.add_assoc] at this; exact this
              have lp : Sem.run P (loadCellsFrom ⟨blk, off + i * k + (k2 - 1) * k, none⟩ 0 k #[]) wr.drew = .ok (enc d[i + k2 - 1]!).toArray wr.drew := by
                have := run_loadCellsFrom_list P wr.drew ⟨blk, off + (i + k2 - 1) * k, none⟩ _ k (HKK.out _) (HoldsK.cells hHk HKK.out (by omega))
                rw [hI.high (i + k2 - 1) (by omega), show (i + k2 - 1) * k = i * k + (k2 - 1) * k by rw [← Nat.add_mul, show i + (k2 - 1) = i + k2 - 1 by omega], ← Nat.add_assoc] at this; exact this
              have st : Sem.run P (storeCells ⟨blk, off + kk * k, none⟩ (enc d[i + k2]!) 0) wr.drew = .ok () (wr.drew.setCells blk (off + kk * k) (enc d[i + k2]!)) := stores_of_holds P hHk (kk * k) _ (by rw [HKK.out, size_flatK]; exact rowK_bnd dk k kk (by omega)) (HK1.out _)
              have lu : (enc d[i + k2]!).length = k := HKK.out _
              clear hHk hHc hI
              generalize hu : d[i + k2]! = u at lm st lu
              generalize hv : d[i + k2 - 1]! = v at lp
              have C : Aside (d[i + k2]! = u ∧ d[i + k2 - 1]! = v) := ⟨hu, hv⟩
              clear hu hv
              by_cases huv : u = v
              · subst huv
                go_wp2_with fail
                go_big_region_o
                all_goals go_wp2
                go_roundg (d.size - (i + (k2 + 1)))
                case measure => omega
                case rel => exact ⟨kk, k2 + 1, q2 + 1, dk, rfl, by go_num, by omega, by omega, Nat.le_refl _, by rw [W2.out]; rfl, I2.out.skip (keeps_neg (by omega) (by rw [C.out.1, C.out.2]))⟩
              · go_wp2_with fail
                go_big_region_o
                all_goals go_wp2
                go_roundg (d.size - (i + (k2 + 1)))
                case measure => omega
                case rel =>
                  refine ⟨kk + 1, k2 + 1, q2 + 1, dk.setIfInBounds kk u, by go_num, by go_num, by omega, by omega, Nat.le_refl _, ?_, by have := I2.out.keep hlt2 (keeps_pos (by rw [C.out.1, C.out.2]; exact huv)); rwa [C.out.1] at this⟩
                  rw [W2.out]
                  exact store_k enc k k0 HKK.out w q2 blk off dk kk (by omega) u
            · have hend : i + k2 = d.size := by omega
              have hcl : ∀ ty, (Builtin.clear_ #[ρ.t 22] ty #[.slice (some ⟨blk, off + kk * k, none⟩) (d.size - kk) (cap - kk)]).run P wr = .ok (.tuple #[]) (wr.setCells blk (off + kk * k) (List.replicate (d.size - kk) (enc zr)).flatten) :=
                fun ty => run_clear_k wr _ _ ty _ t22 v23 (HK1.out zr) blk off (kk * k) _ _ (by omega) hHc (by rw [HKK.out, size_flatK, ← Nat.add_mul]; exact Nat.mul_le_mul_right k (by omega))
              clear hHk hHc hI
              go_wp2
              go_ret
              have hI := I2.out
              rw [hend] at hI
              refine ⟨by rw [hI.len]; rfl, q2, ?_⟩
              rw [hI.len, ← hI.done zr, flat_rep, ← setCells_lay enc k k0 HKK.out _ blk off _ dk kk (by simp; omega), ← W2.out]
        · go_wp2_with fail
          go_big_region_o
          all_goals go_wp2
          go_roundg (d.size - (i + 1))
          case measure => omega
          case rel =>
            refine ⟨i + 1, q + 1, by omega, by omega, Nat.le_refl _, by go_num, by rw [HW.out]; rfl, fun j hj => ?_⟩
            by_cases e : j = i
            · subst e
              exact keeps_pos (by rw [B.out.1, B.out.2]; exact hdup)
            · exact A.out j (by omega)
      · have : i = d.size := by omega
        subst this
        have HH : Aside (HoldsK enc k w blk off d) := hH
        clear hH
        go_wp2
        go_ret
        obtain ⟨e1, e2⟩ := HS.out q hall
        exact ⟨by rw [e1]; rfl, q, e2⟩

set_option maxHeartbeats 1000000 in
omit [Inhabited α] [DecidableEq α] in
theorem slices_Compact_none (L : LC43.n43 P ρ) (a : Option Addr) (cap : Nat) (w : World) :
    Calls P (ρ.f 43) #[.slice a 0 cap] w fun e w' => e = .returned (.slice a 0 cap) ∧ w' = w := by
  have mixed := L.mixed; have t0 := L.t0; have a0 := L.a0; have z0 := L.z0; have v0 := L.v0; have t3 := L.t3; have a3 := L.a3; have z3 := L.z3; have v3 := L.v3; have t4 := L.t4; have a4 := L.a4; have z4 := L.z4; have v4 := L.v4; have t22 := L.t22; have a22 := L.a22; have z22 := L.z22; have v22 := L.v22
  obtain ⟨_, _, FG⟩ := L.f43
  go_enter FG, SlBodyN.n43_ntmps ρ
  go_wp2
  go_ret
  exact ⟨rfl, rfl⟩
end Go.Proofs.YtalkkenkeilmpaaGreat.Cm
