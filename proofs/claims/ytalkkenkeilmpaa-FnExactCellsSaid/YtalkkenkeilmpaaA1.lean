/- Arguments opened, as the evaluator's functions want them: numbers, structs of these, trees. What the row needs of a function's contract. -/
import Derived.Test.YtalkkenkeilmpaaG3
import Derived.WalkKit
import Derived.ProofKit
import Derived.OpenShut
import Derived.Lib.SmallJoins
import Derived.Deep.Slices
import Derived.Deep.Fields
import Derived.ChangeSame
import Derived.Carry
namespace Go.Proofs.Ytalkkenkeilmpaa.Q
open Go Go.RowKit Go.Proofs Go.ChangeShapes Go.WideShapes Go.Deep Go.Joins Go.Proofs.Ytalkkenkeilmpaa.Ev
set_option linter.unusedSimpArgs false
set_option linter.unusedVariables false

/-- the lists are no longer than a slice can be. -/
inductive TM : Tree → Prop
  | mk (b : Bool) (p : S4) (l : List Tree) (hl : l.length ≤ 9223372036854775807) (h : ∀ t ∈ l, TM t) : TM (.mk b p l)
theorem G_of {F : FE} {xs : List AV} {a : F.α} {b : F.β} (h : F.args.dec xs = some a) (hf : F.f a = some b) : F.G xs = some (F.ret.enc b) := by
  simp only [FE.G, h, hf]
theorem dec_nil : lNil.dec [] = some () := rfl
theorem dec_cons {α β : Type} {c : AC α} {r : LC β} {x : AV} {xs : List AV} {a : α} {b : β} (h1 : c.dec x = some a) (h2 : r.dec xs = some b) : (lCons c r).dec (x :: xs) = some (a, b) := by
  simp only [lCons, h1, h2]
theorem dec_tree (T : Tree) : aTree.dec (aTree.enc T) = some T := by cases T; rfl
theorem dec_s4 (p : S4) : aS4.dec (aS4.enc p) = some p := rfl
theorem dec_s3 (p : S3) : aS3.dec (aS3.enc p) = some p := rfl
theorem dec_b (b : Bool) : aB.dec (aB.enc b) = some b := rfl
theorem dec_i (n : Int) : (aI .i64).dec ((aI .i64).enc n) = some n := rfl
theorem reps0 {w : World} {A : Nat → Prop} : ∀ (i : Nat) (v : Value) (y : AV), (#[] : Array Value)[i]? = some v → ([] : List AV)[i]? = some y → Rep w A v y := fun i v y h => by simp at h
theorem repsL {w : World} {A : Nat → Prop} {v0 : Value} {y0 : AV} {vs : List Value} {ys : List AV} (h0 : Rep w A v0 y0) (h : ∀ (i : Nat) (v : Value) (y : AV), vs.toArray[i]? = some v → ys[i]? = some y → Rep w A v y) : ∀ (i : Nat) (v : Value) (y : AV), (v0 :: vs).toArray[i]? = some v → (y0 :: ys)[i]? = some y → Rep w A v y := fun i v y hv hy => by
  cases i with
  | zero => simp at hv hy; subst hv hy; exact h0
  | succ i => simp at hv hy; exact h i v y (by simpa using hv) hy
theorem ret_true {w w' : World} {A : Nat → Prop} {v : Value} (h : RetRep w w' A v ((rOne aB).enc true)) : v = .bool true := rep_v_inv h
theorem rep_s4 {w : World} {A : Nat → Prop} (a b c d : Int) : Rep w A (.agg #[.int .i64 a, .int .i64 b, .int .i64 c, .int .i64 d]) (aS4.enc ⟨a, b, c, d⟩) := Rep.v _
theorem rep_s3 {w : World} {A : Nat → Prop} (a b c : Int) : Rep w A (.agg #[.int .i64 a, .int .i64 b, .int .i64 c]) (aS3.enc ⟨a, b, c⟩) := Rep.v _
theorem rep_b {w : World} {A : Nat → Prop} (b : Bool) : Rep w A (.bool b) (aB.enc b) := Rep.v _
theorem rep_i {w : World} {A : Nat → Prop} (n : Int) : Rep w A (.int .i64 n) ((aI .i64).enc n) := Rep.v _

section
variable {H : Type} {enc : TypeId × Value → H} {w : World} {base : Nat} {spare : Nat → Bool} {held : Bool}
def all (w : World) (b : Nat) : Prop := b < w.heap.size
theorem cell_lt {a : Addr} {v : Value} (h : w.cell? a = some v) : a.block < w.heap.size := by
  unfold World.cell? at h
  split at h
  · rename_i c _ _ hc; exact (Array.getElem?_eq_some_iff.1 hc).1
  · cases h
theorem cell_spot {a : Addr} {v : Value} (h : w.cell? a = some v) : a.spot = none := by
  unfold World.cell? at h
  split at h
  · split at h
    · cases h
    · rename_i hs; simpa using hs
  · cases h
set_option maxRecDepth 100000 in
/-- six cells that read as a tree -/
theorem open_tree : ∀ (fuel : Nat) {cs : List Value} {x : DataW H × List MemPlace} (h : DataW.trod enc Try.prog w base spare held fuel 26 cs = some x) (hl : cs.length = 6),
    ∃ T : Tree, TM T ∧ ∀ c, c < 6 → ∃ u, cs[c]? = some u ∧ Rep w (all w) u (El.tree.cell T c) := by
  intro fuel
  induction fuel using Nat.strongRecOn with
  | _ fuel ihf =>
  intro cs x h hl
  obtain ⟨xs, n, hfuel, hx, _, hlen, hg⟩ := DataW.trod_struct Try.underlying26 h
  match cs, hl with
  | [c0, c1, c2, c3, c4, c5], _ =>
    match xs, hlen with
    | [y0, y1, y2], _ =>
      have g0 := hg 0 _ rfl
      have g1 := hg 1 _ rfl
      have g2 := hg 2 _ rfl
      have hb : Try.prog.cellsOf 4 = 1 := by kernel_rfl
      have hp : Try.prog.cellsOf 23 = 4 := by kernel_rfl
      have hs : Try.prog.cellsOf 24 = 1 := by kernel_rfl
      have hT : Try.prog.cellsOf 26 = 6 := by kernel_rfl
      simp [hb, hp, hs] at g0 g1 g2
      obtain ⟨b, e0, _⟩ := DataW.trod_bool Try.underlying4 g0
      obtain rfl : c0 = .bool b := by simpa using e0
      obtain ⟨xs', n', _, hx', _, hlen', hg'⟩ := DataW.trod_struct Try.underlying23 g1
      match xs', hlen' with
      | [z0, z1, z2, z3], _ =>
        have q0 := hg' 0 _ rfl
        have q1 := hg' 1 _ rfl
        have q2 := hg' 2 _ rfl
        have q3 := hg' 3 _ rfl
        have hc : Try.prog.cellsOf 3 = 1 := by kernel_rfl
        simp [hc] at q0 q1 q2 q3
        obtain ⟨i0, f0, _, _⟩ := DataW.trod_int Try.underlying3 q0
        obtain ⟨i1, f1, _, _⟩ := DataW.trod_int Try.underlying3 q1
        obtain ⟨i2, f2, _, _⟩ := DataW.trod_int Try.underlying3 q2
        obtain ⟨i3, f3, _, _⟩ := DataW.trod_int Try.underlying3 q3
        obtain rfl : c1 = .int .i64 i0 := by simpa using f0
        obtain rfl : c2 = .int .i64 i1 := by simpa using f1
        obtain rfl : c3 = .int .i64 i2 := by simpa using f2
        obtain rfl : c4 = .int .i64 i3 := by simpa using f3
        have kids : ∃ l : List Tree, (l.length ≤ 9223372036854775807 ∧ ∀ t ∈ l, TM t) ∧ Rep w (all w) c5 (.sl .tree l) := by
          rcases DataW.trod_slice Try.underlying24 g2 with ⟨hcs, _⟩ | ⟨a, len, cap, elems, rest, m, hm, hcs, _, hbk, hle, hmx, hel, hi, _, _⟩
          · obtain rfl : c5 = .slice none 0 0 := by simpa using hcs
            exact ⟨[], ⟨by simp, fun t ht => by cases ht⟩, Rep.sl none 0 .tree [] (fun _ _ => undef) (Nat.le_refl _) (fun _ => rfl) (fun j hj => by cases hj) (fun j c hj => by cases hj)⟩
          · obtain rfl : c5 = .slice (some a) len cap := by simpa using hcs
            rw [hT] at hi
            have hex : ∀ i, i < len → ∃ T : Tree, TM T ∧ ∀ c, c < 6 → ∃ u, w.cell? (a.add (i * 6 + c)) = some u ∧ Rep w (all w) u (El.tree.cell T c) := by
              intro i hil
              have hi' := hi i hil
              rw [List.getElem?_eq_getElem (by omega)] at hi'
              obtain ⟨cs', hc1, hc2⟩ := Option.bind_eq_some_iff.1 hi'
              obtain ⟨_, hcl, hat⟩ := World.cells?_some hc1
              obtain ⟨T, hTM, hTc⟩ := ihf m (by omega) hc2 hcl
              refine ⟨T, hTM, fun c hc => ?_⟩
              obtain ⟨u, hu, hr⟩ := hTc c hc
              have h1 := hat c hc
              rw [Go.Deep.add_add] at h1
              exact ⟨u, h1.trans hu, hr⟩
            obtain ⟨f, hf⟩ : ∃ f : Nat → Tree, ∀ i, i < len → TM (f i) ∧ ∀ c, c < 6 → ∃ u, w.cell? (a.add (i * 6 + c)) = some u ∧ Rep w (all w) u (El.tree.cell (f i) c) := by
              classical
              refine ⟨fun i => if h : i < len then Classical.choose (hex i h) else default, fun i hil => ?_⟩
              simp only [hil, dite_true]
              exact Classical.choose_spec (hex i hil)
            have hlen2 : ((List.range len).map f).length = len := by simp
            have hget : ∀ j, j < len → ((List.range len).map f).getD j default = f j := fun j hj => by simp [List.getD_eq_getElem?_getD, hj]
            have hmax : len ≤ 9223372036854775807 := by have := hmx; unfold maxLen at this; omega
            refine ⟨(List.range len).map f, ⟨by rw [hlen2]; exact hmax, fun t ht => ?_⟩, ?_⟩
            · obtain ⟨j, hj, rfl⟩ := List.mem_map.1 ht
              exact (hf j (by simpa using hj)).1
            · have key : Rep w (all w) (.slice (some a) ((List.range len).map f).length cap) (.sl .tree ((List.range len).map f)) := by
                refine Rep.sl (some a) cap .tree ((List.range len).map f) (fun j c => (w.cell? (a.add (j * 6 + c))).getD undef) (by rw [hlen2]; exact hle) (fun h => by cases h) (fun j hj => ?_) (fun j c hj hc => ?_)
                · rw [hlen2] at hj
                  obtain ⟨u0, hu0, _⟩ := (hf 0 (by omega)).2 0 (by omega)
                  have hsp : a.spot = none := by simpa [Addr.add] using cell_spot hu0
                  have hbl : a.block < w.heap.size := by simpa [Addr.add] using cell_lt hu0
                  refine ⟨a, rfl, hsp, hbl, fun c hc => ?_⟩
                  obtain ⟨u, hu, _⟩ := (hf j hj).2 c hc
                  have ea : a.add (j * 6 + c) = ⟨a.block, a.off + (j * 6 + c), none⟩ := by
                    unfold Addr.add; split
                    · rename_i h0; rw [h0]; cases a; simp at hsp; subst hsp; rfl
                    · rfl
                  show w.cell? ⟨a.block, a.off + (j * 6 + c), none⟩ = some ((w.cell? (a.add (j * 6 + c))).getD undef)
                  rw [← ea, hu]; rfl
                · rw [hlen2] at hj
                  rw [hget j hj]
                  obtain ⟨u, hu, hr⟩ := (hf j hj).2 c hc
                  simp only [hu, Option.getD_some]; exact hr
              rwa [hlen2] at key
        obtain ⟨l, ⟨hl1, hl2⟩, hr⟩ := kids
        refine ⟨.mk b ⟨i0, i1, i2, i3⟩ l, .mk _ _ _ hl1 hl2, fun c hc => ?_⟩
        match c, hc with
        | 0, _ => exact ⟨_, rfl, Rep.v _⟩
        | 1, _ => exact ⟨_, rfl, Rep.v _⟩
        | 2, _ => exact ⟨_, rfl, Rep.v _⟩
        | 3, _ => exact ⟨_, rfl, Rep.v _⟩
        | 4, _ => exact ⟨_, rfl, Rep.v _⟩
        | 5, _ => exact ⟨_, rfl, hr⟩
/-- an argument that is a tree -/
theorem open_solid {v : Value} {d : DataW H} {p : List MemPlace} (hv : ∃ xs : Array Value, v = .agg xs ∧ xs.size = 6) (h : DataW.Trod enc Try.prog w base spare held 26 v d p) : ∃ T : Tree, TM T ∧ Rep w (all w) v (aTree.enc T) := by
  obtain ⟨xs, rfl, hn⟩ := hv
  obtain ⟨fuel, hf⟩ := h
  obtain ⟨T, hT, hc⟩ := open_tree fuel hf (by simpa [Value.cells] using hn)
  refine ⟨T, hT, Rep.agg xs _ (by simpa using hn) fun i u y hu hy => ?_⟩
  have hi : i < 6 := by rw [← hn]; exact (Array.getElem?_eq_some_iff.1 hu).1
  obtain ⟨u', hu', hr⟩ := hc i hi
  have : (Value.agg xs).cells.toList[i]? = some u := by simpa [Value.cells] using hu
  rw [this] at hu'; cases hu'
  match i, hi with
  | 0, _ => simp at hy; subst hy; exact hr
  | 1, _ => simp at hy; subst hy; exact hr
  | 2, _ => simp at hy; subst hy; exact hr
  | 3, _ => simp at hy; subst hy; exact hr
  | 4, _ => simp at hy; subst hy; exact hr
  | 5, _ => simp at hy; subst hy; exact hr
end
end Go.Proofs.Ytalkkenkeilmpaa.Q
