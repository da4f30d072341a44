/- Arguments opened: a slice of planes, a long number. -/
import Derived.Test.YtndedincanmaeaaPrint0
import Derived.WalkKit
import Derived.ProofKit
import Derived.OpenShut
import Derived.Lib.SmallJoins
import Derived.Deep.Slices
import Derived.Deep.Fields
import Derived.ChangeSame
import Derived.Carry
namespace Go.Proofs.Ytndedincanmaeaa.Pure
open Go.RowKit Go.ChangeShapes Go.WideShapes Go.Deep Go.Joins Go.Proofs.Ytndedincanmaeaa.Print Go.Proofs.YtndedincanmaeaaW.PrintWords Go.Proofs.YtndedincanmaeaaW.PrintLast Go.Proofs.YtndedincanmaeaaW.PrintMore
set_option linter.unusedSimpArgs false
set_option linter.unusedVariables false
section
variable {H : Type} {enc : TypeId × Value → H} {w : World} {base : Nat} {spare : Nat → Bool} {held : Bool}
set_option maxRecDepth 100000 in
/-- four cells that read as a plane -/
theorem open_plane_cells {fuel : Nat} {cs : List Value} {x : DataW H × List MemPlace} (h : DataW.trod enc Try.prog w base spare held fuel 31 cs = some x) (hl : cs.length = 4) :
    ∃ a b c d : Int, cs = [.int .i64 a, .int .i64 b, .int .i64 c, .int .i64 d] := by
  obtain ⟨xs, n, _, hx, _, hlen, hg⟩ := DataW.trod_struct Try.underlying31 h
  match cs, hl with
  | [c0, c1, c2, c3], _ =>
    match xs, hlen with
    | [y0, y1, y2, y3], _ =>
      have g0 := hg 0 _ rfl
      have g1 := hg 1 _ rfl
      have g2 := hg 2 _ rfl
      have g3 := hg 3 _ rfl
      have hc : Try.prog.cellsOf 3 = 1 := by kernel_rfl
      simp [hc] at g0 g1 g2 g3
      obtain ⟨a, e0, _, _⟩ := DataW.trod_int Try.underlying3 g0
      obtain ⟨b, e1, _, _⟩ := DataW.trod_int Try.underlying3 g1
      obtain ⟨c, e2, _, _⟩ := DataW.trod_int Try.underlying3 g2
      obtain ⟨d, e3, _, _⟩ := DataW.trod_int Try.underlying3 g3
      simp at e0 e1 e2 e3
      exact ⟨a, b, c, d, by rw [e0, e1, e2, e3]⟩
/-- an argument that is a slice of planes -/
theorem open_planes {v : Value} {d : DataW H} {p : List MemPlace} (hv : ∃ a len cap, v = .slice a len cap) (h : DataW.Trod enc Try.prog w base spare held 50 v d p) :
    ∃ (A : Option Addr) (c : Nat) (l : List S31), v = .slice A l.length c ∧ Kd.C k31 w A l.length l ∧ l.length ≤ c ∧ l.length ≤ 9223372036854775807 := by
  obtain ⟨a0, len0, cap0, rfl⟩ := hv
  obtain ⟨fuel, hf⟩ := h
  rcases open_slice Try.underlying50 hf with ⟨hcs, _⟩ | ⟨a, len, cap, m, n, D, Pl, hcs, hb, hl, hm, hmm, hx, hi⟩
  · simp [Value.cells] at hcs
    obtain ⟨rfl, rfl, rfl⟩ := hcs
    exact ⟨none, 0, [], rfl, Kd.C_nil _ _, Nat.le_refl _, Nat.zero_le _⟩
  · simp [Value.cells] at hcs
    obtain ⟨rfl, rfl, rfl⟩ := hcs
    have hC : Try.prog.cellsOf 31 = 4 := by kernel_rfl
    rw [hC] at hi
    have hmax : len0 ≤ 9223372036854775807 := by have := hm; unfold maxLen at this; omega
    have hlm : len0 ≤ m := by rw [hmm]; split <;> omega
    have hex : ∀ i, i < len0 → ∃ s : S31, ∀ j u, ([Value.int .i64 s.f0, Value.int .i64 s.f1, Value.int .i64 s.f2, Value.int .i64 s.f3] : List Value)[j]? = some u → w.cell? (a.add (i * 4 + j)) = some u := by
      intro i hil
      obtain ⟨cs', hc, ht⟩ := hi i (by omega)
      obtain ⟨_, hcl, hat⟩ := World.cells?_some hc
      obtain ⟨x0, x1, x2, x3, rfl⟩ := open_plane_cells ht hcl
      refine ⟨⟨x0, x1, x2, x3⟩, fun j u hu => ?_⟩
      have hj : j < 4 := by
        have := (List.getElem?_eq_some_iff.1 hu).1
        simpa using this
      have h1 := hat j hj
      rw [Go.Deep.add_add] at h1
      rw [h1]
      match j, hj with
      | 0, _ => simpa using hu
      | 1, _ => simpa using hu
      | 2, _ => simpa using hu
      | 3, _ => simpa using hu
    obtain ⟨f, hfx⟩ : ∃ f : Nat → S31, ∀ i, i < len0 → ∀ j u, ([Value.int .i64 (f i).f0, Value.int .i64 (f i).f1, Value.int .i64 (f i).f2, Value.int .i64 (f i).f3] : List Value)[j]? = some u → w.cell? (a.add (i * 4 + j)) = some u := by
      classical
      refine ⟨fun i => if h : i < len0 then Classical.choose (hex i h) else z31, fun i hil => ?_⟩
      simp only [hil, dite_true]
      exact Classical.choose_spec (hex i hil)
    have hlen : ((List.range len0).map f).length = len0 := by simp
    refine ⟨some a, cap0, (List.range len0).map f, by rw [hlen], ?_, by rw [hlen]; exact hl, by rw [hlen]; exact hmax⟩
    rw [hlen]
    refine ⟨hlen, hmax, fun hn => ⟨a, rfl, fun j p hj => ?_⟩⟩
    obtain ⟨hj1, hj2⟩ := List.getElem?_eq_some_iff.1 hj
    rw [hlen] at hj1
    have e : p = f j := by rw [← hj2]; simp
    subst e
    exact ⟨_, rfl, k31_mk w (f j), hfx j hj1⟩

end
end Go.Proofs.Ytndedincanmaeaa.Pure
