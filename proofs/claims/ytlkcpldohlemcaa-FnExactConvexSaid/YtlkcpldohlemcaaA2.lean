/- An argument that is a slice of planes. -/
import Derived.Test.YtlkcpldohlemcaaA1
namespace Go.Proofs.Ytlkcpldohlemcaa.Q
open Go Go.RowKit Go.Proofs Go.ChangeShapes Go.WideShapes Go.Deep Go.Joins Go.Proofs.Ytlkcpldohlemcaa.Ev
set_option linter.unusedSimpArgs false
set_option linter.unusedVariables false
section
variable {H : Type} {enc : TypeId × Value → H} {w : World} {base : Nat} {spare : Nat → Bool} {held : Bool}
set_option maxRecDepth 100000 in
theorem open_planes {v : Value} {d : DataW H} {p : List MemPlace} (hv : ∃ a len cap, v = .slice a len cap) (h : DataW.Trod enc Try.prog w base spare held 34 v d p) : ∃ L : List S4, L.length ≤ 9223372036854775807 ∧ Rep w (all w) v ((aSl .s4).enc L) := by
  obtain ⟨a0, len0, cap0, rfl⟩ := hv
  obtain ⟨fuel, hf⟩ := h
  rcases DataW.trod_slice Try.underlying34 hf with ⟨hcs, _⟩ | ⟨a, len, cap, elems, rest, m, hm, hcs, _, hbk, hle, hmx, hel, hi, _, _⟩
  · simp [Value.cells] at hcs
    obtain ⟨rfl, rfl, rfl⟩ := hcs
    exact ⟨[], by simp, Rep.sl none 0 .s4 [] (fun _ _ => undef) (Nat.le_refl _) (fun _ => rfl) (fun j hj => by cases hj) (fun j c hj => by cases hj)⟩
  · simp [Value.cells] at hcs
    obtain ⟨rfl, rfl, rfl⟩ := hcs
    have hC : Try.prog.cellsOf 23 = 4 := by kernel_rfl
    rw [hC] at hi
    have hex : ∀ i, i < len0 → ∃ s : S4, ∀ c, c < 4 → ∃ u, w.cell? (a.add (i * 4 + c)) = some u ∧ Rep w (all w) u (El.s4.cell s c) := by
      intro i hil
      have hi' := hi i hil
      rw [List.getElem?_eq_getElem (by omega)] at hi'
      obtain ⟨cs', hc1, hc2⟩ := Option.bind_eq_some_iff.1 hi'
      obtain ⟨_, hcl, hat⟩ := World.cells?_some hc1
      obtain ⟨xs', n', _, hx', _, hlen', hg'⟩ := DataW.trod_struct Try.underlying23 hc2
      match cs', hcl with
      | [c1, c2, c3, c4], _ =>
      match xs', hlen' with
      | [z0, z1, z2, z3], _ =>
        have q0 := hg' 0 _ rfl
        have q1 := hg' 1 _ rfl
        have q2 := hg' 2 _ rfl
        have q3 := hg' 3 _ rfl
        have hc : Try.prog.cellsOf 3 = 1 := by kernel_rfl
        simp [hc] at q0 q1 q2 q3
        obtain ⟨i0, f0, _, _⟩ := DataW.trod_int Try.underlying3 q0
        obtain ⟨i1, f1, _, _⟩ := DataW.trod_int Try.underlying3 q1
        obtain ⟨i2, f2, _, _⟩ := DataW.trod_int Try.underlying3 q2
        obtain ⟨i3, f3, _, _⟩ := DataW.trod_int Try.underlying3 q3
        obtain rfl : c1 = .int .i64 i0 := by simpa using f0
        obtain rfl : c2 = .int .i64 i1 := by simpa using f1
        obtain rfl : c3 = .int .i64 i2 := by simpa using f2
        obtain rfl : c4 = .int .i64 i3 := by simpa using f3
        refine ⟨⟨i0, i1, i2, i3⟩, fun c hc => ?_⟩
        have h1 := hat c hc
        rw [Go.Deep.add_add] at h1
        match c, hc with
        | 0, _ => exact ⟨_, h1, Rep.v _⟩
        | 1, _ => exact ⟨_, h1, Rep.v _⟩
        | 2, _ => exact ⟨_, h1, Rep.v _⟩
        | 3, _ => exact ⟨_, h1, Rep.v _⟩
    obtain ⟨f, hf⟩ : ∃ f : Nat → S4, ∀ i, i < len0 → ∀ c, c < 4 → ∃ u, w.cell? (a.add (i * 4 + c)) = some u ∧ Rep w (all w) u (El.s4.cell (f i) c) := by
      classical
      refine ⟨fun i => if h : i < len0 then Classical.choose (hex i h) else default, fun i hil => ?_⟩
      simp only [hil, dite_true]
      exact Classical.choose_spec (hex i hil)
    have hlen2 : ((List.range len0).map f).length = len0 := by simp
    have hget : ∀ j, j < len0 → ((List.range len0).map f).getD j default = f j := fun j hj => by simp [List.getD_eq_getElem?_getD, hj]
    have hmax : len0 ≤ 9223372036854775807 := by have := hmx; unfold maxLen at this; omega
    refine ⟨(List.range len0).map f, by rw [hlen2]; exact hmax, ?_⟩
    have key : Rep w (all w) (.slice (some a) ((List.range len0).map f).length cap0) (.sl .s4 ((List.range len0).map f)) := by
      refine Rep.sl (some a) cap0 .s4 ((List.range len0).map f) (fun j c => (w.cell? (a.add (j * 4 + c))).getD undef) (by rw [hlen2]; exact hle) (fun h => by cases h) (fun j hj => ?_) (fun j c hj hc => ?_)
      · rw [hlen2] at hj
        obtain ⟨u0, hu0, _⟩ := hf 0 (by omega) 0 (by omega)
        have hsp : a.spot = none := by simpa [Addr.add] using cell_spot hu0
        have hbl : a.block < w.heap.size := by simpa [Addr.add] using cell_lt hu0
        refine ⟨a, rfl, hsp, hbl, fun c hc => ?_⟩
        obtain ⟨u, hu, _⟩ := hf j hj c hc
        have ea : a.add (j * 4 + c) = ⟨a.block, a.off + (j * 4 + c), none⟩ := by
          unfold Addr.add; split
          · rename_i h0; rw [h0]; cases a; simp at hsp; subst hsp; rfl
          · rfl
        show w.cell? ⟨a.block, a.off + (j * 4 + c), none⟩ = some ((w.cell? (a.add (j * 4 + c))).getD undef)
        rw [← ea, hu]; rfl
      · rw [hlen2] at hj
        rw [hget j hj]
        obtain ⟨u, hu, hr⟩ := hf j hj c hc
        simp only [hu, Option.getD_some]; exact hr
    rwa [hlen2] at key
theorem dec_sl4 (L : List S4) : (aSl .s4).dec ((aSl .s4).enc L) = some L := rfl
end
end Go.Proofs.Ytlkcpldohlemcaa.Q
