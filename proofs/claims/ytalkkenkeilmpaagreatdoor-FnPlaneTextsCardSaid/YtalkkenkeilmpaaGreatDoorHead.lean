/- Three closed facts on the head of the program: what it was cut as. The head's words are parted by a lemma. -/
import Derived.Test.YtalkkenkeilmpaaGreatDoorRows
import Derived.JoinedOf
import Derived.KernelRfl
namespace Go.Proofs.YtalkkenkeilmpaaGreatDoor.Head
set_option maxRecDepth 100000
theorem part_word : ∀ (w r : List Char), (∀ c ∈ w, c ≠ Char.ofNat 32) → wordsSigns (w ++ Char.ofNat 32 :: r) = w :: wordsSigns r
  | [], r, _ => rfl
  | c :: w, r, h => by
    have hc : c ≠ Char.ofNat 32 := h c List.mem_cons_self
    have ih := part_word w r (fun x hx => h x (List.mem_cons_of_mem _ hx))
    rw [List.cons_append, wordsSigns]
    · rw [ih]
    · exact hc
theorem initIs : Tryz.prog.initOrder = "harness ae54fc67be065b337622c7bdc18fb30bf29379e5d9a0c07735d02f449438efe3 cut at loop.example/g00125/laws.FnPlaneTexts" := by kernel_rfl
def cs (l : List Nat) : List Char := l.map Char.ofNat
def all : List Nat := [104, 97, 114, 110, 101, 115, 115, 32, 97, 101, 53, 52, 102, 99, 54, 55, 98, 101, 48, 54, 53, 98, 51, 51, 55, 54, 50, 50, 99, 55, 98, 100, 99, 49, 56, 102, 98, 51, 48, 98, 102, 50, 57, 51, 55, 57, 101, 53, 100, 57, 97, 48, 99, 48, 55, 55, 51, 53, 100, 48, 50, 102, 52, 52, 57, 52, 51, 56, 101, 102, 101, 51, 32, 99, 117, 116, 32, 97, 116, 32, 108, 111, 111, 112, 46, 101, 120, 97, 109, 112, 108, 101, 47, 103, 48, 48, 49, 50, 53, 47, 108, 97, 119, 115, 46, 70, 110, 80, 108, 97, 110, 101, 84, 101, 120, 116, 115]
theorem signs : Tryz.prog.initOrder.toList = cs all := by rw [initIs]; exact (String.toList_ofList : (String.ofList (cs all)).toList = cs all)
def w0 : List Char := cs [104, 97, 114, 110, 101, 115, 115]
def w1 : List Char := cs [97, 101, 53, 52, 102, 99, 54, 55, 98, 101, 48, 54, 53, 98, 51, 51, 55, 54, 50, 50, 99, 55, 98, 100, 99, 49, 56, 102, 98, 51, 48, 98, 102, 50, 57, 51, 55, 57, 101, 53, 100, 57, 97, 48, 99, 48, 55, 55, 51, 53, 100, 48, 50, 102, 52, 52, 57, 52, 51, 56, 101, 102, 101, 51]
def w2 : List Char := cs [99, 117, 116]
def rest : List Char := cs (all.drop 77)
theorem parted : Tryz.prog.initOrder.toList = w0 ++ Char.ofNat 32 :: (w1 ++ Char.ofNat 32 :: (w2 ++ Char.ofNat 32 :: rest)) := by rw [signs]; rfl
theorem words : ∃ r, wordsSigns Tryz.prog.initOrder.toList = w0 :: w1 :: w2 :: r := by
  rw [parted, part_word w0 _ (by decide), part_word w1 _ (by decide), part_word w2 _ (by decide)]
  exact ⟨_, rfl⟩
theorem make_of {P : Program} {w r : List (List Char)} {c : List Char} (h : wordsSigns P.initOrder.toList = w) (hb : behindMainWord w = c :: r) (h1 : (c == "gc".toList || c == "spec".toList) = false) (h2 : (c == "cut".toList) = true) : P.make = some .cut := by
  unfold Program.make
  rw [h, hb]
  simp only [h1, h2, Bool.false_eq_true, if_false, Bool.true_or, if_true]
theorem lifts_of {P : Program} {w r : List (List Char)} {c : List Char} (h : wordsSigns P.initOrder.toList = w) (hb : behindMainWord w = c :: r) (h1 : (stripLifts liftWords (c :: r)).1 = []) (h2 : ((c :: r).head? == some "carried".toList) = false) : P.liftsFinal = false := by
  unfold Program.liftsFinal Program.headLifts
  simp only [h, hb, h1, h2, Bool.false_and, Bool.false_or, ite_self]
  rfl
theorem enter_of {P : Program} {w r : List (List Char)} {c : List Char} (h : wordsSigns P.initOrder.toList = w) (hb : behindMainWord w = c :: r) (h1 : stripLifts liftWords (c :: r) = ([], c :: r)) (h2 : (some c == some "cut".toList) = true)
    (h3 : P.laysLater = false) (h4 : P.bearsReflect = false) (h5 : P.doorFits [] = true) : P.mayEnter = true := by
  unfold Program.mayEnter
  rw [h, hb]
  simp only [h1, h3, h4, h5, List.head?_cons, h2, Bool.not_false, Bool.or_true, Bool.and_true, List.contains_nil]
theorem behind (r : List (List Char)) : behindMainWord (w0 :: w1 :: w2 :: r) = w2 :: r := by kernel_rfl
theorem strip (r : List (List Char)) : stripLifts liftWords (w2 :: r) = ([], w2 :: r) := by kernel_rfl
theorem lays : Tryz.prog.laysLater = false := by kernel_rfl
theorem reflects : Tryz.prog.bearsReflect = false := by kernel_rfl
theorem doors : Tryz.prog.doorFits [] = true := by kernel_rfl
theorem makeIs : Tryz.prog.make = some .cut := by
  obtain ⟨r, h⟩ := words
  exact make_of h (behind r) (by kernel_rfl) (by kernel_rfl)
theorem liftsIs : Tryz.prog.liftsFinal = false := by
  obtain ⟨r, h⟩ := words
  exact lifts_of h (behind r) (by rw [strip]) (by kernel_rfl)
theorem enterIs : Tryz.prog.mayEnter = true := by
  obtain ⟨r, h⟩ := words
  exact enter_of h (behind r) (strip r) (by kernel_rfl) lays reflects doors
end Go.Proofs.YtalkkenkeilmpaaGreatDoor.Head
