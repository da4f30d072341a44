/- Arguments opened, as the evaluator's functions want them: numbers, structs of these, trees. What the row needs of a function's contract. -/
import Derived.Test.YtalkkenkeilmpaaGreatG7
import Derived.WalkKit
import Derived.ProofKit
import Derived.OpenShut
import Derived.Lib.SmallJoins
import Derived.Deep.Slices
import Derived.Deep.Fields
import Derived.ChangeSame
import Derived.Carry
namespace Go.Proofs.YtalkkenkeilmpaaGreat.Q
open Go Go.RowKit Go.Proofs Go.ChangeShapes Go.WideShapes Go.Deep Go.Joins Go.Proofs.YtalkkenkeilmpaaGreat.Ev
set_option linter.unusedSimpArgs false
set_option linter.unusedVariables false

/-- the lists are no longer than a slice can be. -/
inductive TM : Tree → Prop
  | mk (b : Bool) (p : S4) (l : List Tree) (hl : l.length ≤ 9223372036854775807) (h : ∀ t ∈ l, TM t) : TM (.mk b p l)
theorem G_of {F : FE} {xs : List AV} {a : F.α} {b : F.β} (h : F.args.dec xs = some a) (hf : F.f a = some b) : F.G xs = some (F.ret.enc b) := by
  simp only [FE.G, h, hf]
theorem dec_nil : lNil.dec [] = some () := rfl
theorem dec_cons {α β : Type} {c : AC α} {r : LC β} {x : AV} {xs : List AV} {a : α} {b : β} (h1 : c.dec x = some a) (h2 : r.dec xs = some b) : (lCons c r).dec (x :: xs) = some (a, b) := by
  simp only [lCons, h1, h2]
theorem dec_tree (T : Tree) : aTree.dec (aTree.enc T) = some T := by cases T; rfl
theorem dec_s4 (p : S4) : aS4.dec (aS4.enc p) = some p := rfl
theorem dec_s3 (p : S3) : aS3.dec (aS3.enc p) = some p := rfl
theorem dec_b (b : Bool) : aB.dec (aB.enc b) = some b := rfl
theorem dec_i (n : Int) : (aI .i64).dec ((aI .i64).enc n) = some n := rfl
theorem reps0 {w : World} {A : Nat → Prop} : ∀ (i : Nat) (v : Value) (y : AV), (#[] : Array Value)[i]? = some v → ([] : List AV)[i]? = some y → Rep w A v y := fun i v y h => by simp at h
theorem repsL {w : World} {A : Nat → Prop} {v0 : Value} {y0 : AV} {vs : List Value} {ys : List AV} (h0 : Rep w A v0 y0) (h : ∀ (i : Nat) (v : Value) (y : AV), vs.toArray[i]? = some v → ys[i]? = some y → Rep w A v y) : ∀ (i : Nat) (v : Value) (y : AV), (v0 :: vs).toArray[i]? = some v → (y0 :: ys)[i]? = some y → Rep w A v y := fun i v y hv hy => by
  cases i with
  | zero => simp at hv hy; subst hv hy; exact h0
  | succ i => simp at hv hy; exact h i v y (by simpa using hv) hy
theorem ret_true {w w' : World} {A : Nat → Prop} {v : Value} (h : RetRep w w' A v ((rOne aB).enc true)) : v = .bool true := rep_v_inv h
theorem rep_s4 {w : World} {A : Nat → Prop} (a b c d : Int) : Rep w A (.agg #[.int .i64 a, .int .i64 b, .int .i64 c, .int .i64 d]) (aS4.enc ⟨a, b, c, d⟩) := Rep.v _
theorem rep_s3 {w : World} {A : Nat → Prop} (a b c : Int) : Rep w A (.agg #[.int .i64 a, .int .i64 b, .int .i64 c]) (aS3.enc ⟨a, b, c⟩) := Rep.v _
theorem rep_b {w : World} {A : Nat → Prop} (b : Bool) : Rep w A (.bool b) (aB.enc b) := Rep.v _
theorem rep_i {w : World} {A : Nat → Prop} (n : Int) : Rep w A (.int .i64 n) ((aI .i64).enc n) := Rep.v _

section
variable {H : Type} {enc : TypeId × Value → H} {w : World} {base : Nat} {spare : Nat → Bool} {held : Bool}
def all (w : World) (b : Nat) : Prop := b < w.heap.size
theorem cell_lt {a : Addr} {v : Value} (h : w.cell? a = some v) : a.block < w.heap.size := by
  unfold World.cell? at h
  split at h
  · rename_i c _ _ hc; exact (Array.getElem?_eq_some_iff.1 hc).1
  · cases h
theorem cell_spot {a : Addr} {v : Value} (h : w.cell? a = some v) : a.spot = none := by
  unfold World.cell? at h
  split at h
  · split at h
    · cases h
    · rename_i hs; simpa using hs
  · cases h
set_option maxRecDepth 100000 in
end
end Go.Proofs.YtalkkenkeilmpaaGreat.Q
