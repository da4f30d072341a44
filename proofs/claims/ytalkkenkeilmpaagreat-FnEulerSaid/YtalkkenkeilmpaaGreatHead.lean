/- Three closed facts on the head of the program: what it was cut as. The head's words are parted by a lemma. -/
import Derived.Test.YtalkkenkeilmpaaGreatRows
import Derived.JoinedOf
import Derived.KernelRfl
namespace Go.Proofs.YtalkkenkeilmpaaGreat.Head
set_option maxRecDepth 100000
theorem part_word : ∀ (w r : List Char), (∀ c ∈ w, c ≠ Char.ofNat 32) → wordsSigns (w ++ Char.ofNat 32 :: r) = w :: wordsSigns r
  | [], r, _ => rfl
  | c :: w, r, h => by
    have hc : c ≠ Char.ofNat 32 := h c List.mem_cons_self
    have ih := part_word w r (fun x hx => h x (List.mem_cons_of_mem _ hx))
    rw [List.cons_append, wordsSigns]
    · rw [ih]
    · exact hc
theorem initIs : Tryz.prog.initOrder = "harness cf17df0b424df2a0189ffe2cd9172e81dade7d52688394df8949062ba6962db1 cut at loop.example/g00125/laws.FnNeeded loop.example/g00125/laws.FnEuler" := by kernel_rfl
def cs (l : List Nat) : List Char := l.map Char.ofNat
def all : List Nat := [104, 97, 114, 110, 101, 115, 115, 32, 99, 102, 49, 55, 100, 102, 48, 98, 52, 50, 52, 100, 102, 50, 97, 48, 49, 56, 57, 102, 102, 101, 50, 99, 100, 57, 49, 55, 50, 101, 56, 49, 100, 97, 100, 101, 55, 100, 53, 50, 54, 56, 56, 51, 57, 52, 100, 102, 56, 57, 52, 57, 48, 54, 50, 98, 97, 54, 57, 54, 50, 100, 98, 49, 32, 99, 117, 116, 32, 97, 116, 32, 108, 111, 111, 112, 46, 101, 120, 97, 109, 112, 108, 101, 47, 103, 48, 48, 49, 50, 53, 47, 108, 97, 119, 115, 46, 70, 110, 78, 101, 101, 100, 101, 100, 32, 108, 111, 111, 112, 46, 101, 120, 97, 109, 112, 108, 101, 47, 103, 48, 48, 49, 50, 53, 47, 108, 97, 119, 115, 46, 70, 110, 69, 117, 108, 101, 114]
theorem signs : Tryz.prog.initOrder.toList = cs all := by rw [initIs]; exact (String.toList_ofList : (String.ofList (cs all)).toList = cs all)
def w0 : List Char := cs [104, 97, 114, 110, 101, 115, 115]
def w1 : List Char := cs [99, 102, 49, 55, 100, 102, 48, 98, 52, 50, 52, 100, 102, 50, 97, 48, 49, 56, 57, 102, 102, 101, 50, 99, 100, 57, 49, 55, 50, 101, 56, 49, 100, 97, 100, 101, 55, 100, 53, 50, 54, 56, 56, 51, 57, 52, 100, 102, 56, 57, 52, 57, 48, 54, 50, 98, 97, 54, 57, 54, 50, 100, 98, 49]
def w2 : List Char := cs [99, 117, 116]
def rest : List Char := cs (all.drop 77)
theorem parted : Tryz.prog.initOrder.toList = w0 ++ Char.ofNat 32 :: (w1 ++ Char.ofNat 32 :: (w2 ++ Char.ofNat 32 :: rest)) := by rw [signs]; rfl
theorem words : ∃ r, wordsSigns Tryz.prog.initOrder.toList = w0 :: w1 :: w2 :: r := by
  rw [parted, part_word w0 _ (by decide), part_word w1 _ (by decide), part_word w2 _ (by decide)]
  exact ⟨_, rfl⟩
theorem make_of {P : Program} {w r : List (List Char)} {c : List Char} (h : wordsSigns P.initOrder.toList = w) (hb : behindMainWord w = c :: r) (h1 : (c == "gc".toList || c == "spec".toList) = false) (h2 : (c == "cut".toList) = true) : P.make = some .cut := by
  unfold Program.make
  rw [h, hb]
  simp only [h1, h2, Bool.false_eq_true, if_false, Bool.true_or, if_true]
theorem lifts_of {P : Program} {w r : List (List Char)} {c : List Char} (h : wordsSigns P.initOrder.toList = w) (hb : behindMainWord w = c :: r) (h1 : (stripLifts liftWords (c :: r)).1 = []) (h2 : ((c :: r).head? == some "carried".toList) = false) : P.liftsFinal = false := by
  unfold Program.liftsFinal Program.headLifts
  simp only [h, hb, h1, h2, Bool.false_and, Bool.false_or, ite_self]
  rfl
theorem enter_of {P : Program} {w r : List (List Char)} {c : List Char} (h : wordsSigns P.initOrder.toList = w) (hb : behindMainWord w = c :: r) (h1 : stripLifts liftWords (c :: r) = ([], c :: r)) (h2 : (some c == some "cut".toList) = true)
    (h3 : P.laysLater = false) (h4 : P.bearsReflect = false) (h5 : P.doorFits [] = true) : P.mayEnter = true := by
  unfold Program.mayEnter
  rw [h, hb]
  simp only [h1, h3, h4, h5, List.head?_cons, h2, Bool.not_false, Bool.or_true, Bool.and_true, List.contains_nil]
theorem behind (r : List (List Char)) : behindMainWord (w0 :: w1 :: w2 :: r) = w2 :: r := by kernel_rfl
theorem strip (r : List (List Char)) : stripLifts liftWords (w2 :: r) = ([], w2 :: r) := by kernel_rfl
theorem lays : Tryz.prog.laysLater = false := by kernel_rfl
theorem reflects : Tryz.prog.bearsReflect = false := by kernel_rfl
theorem doors : Tryz.prog.doorFits [] = true := by kernel_rfl
theorem makeIs : Tryz.prog.make = some .cut := by
  obtain ⟨r, h⟩ := words
  exact make_of h (behind r) (by kernel_rfl) (by kernel_rfl)
theorem liftsIs : Tryz.prog.liftsFinal = false := by
  obtain ⟨r, h⟩ := words
  exact lifts_of h (behind r) (by rw [strip]) (by kernel_rfl)
theorem enterIs : Tryz.prog.mayEnter = true := by
  obtain ⟨r, h⟩ := words
  exact enter_of h (behind r) (strip r) (by kernel_rfl) lays reflects doors
end Go.Proofs.YtalkkenkeilmpaaGreat.Head
