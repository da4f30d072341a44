/- An argument that is a slice of bytes. -/
import Derived.Test.YtalkkenkeilmpaaGreatA1
namespace Go.Proofs.YtalkkenkeilmpaaGreat.Q
open Go Go.RowKit Go.Proofs Go.ChangeShapes Go.WideShapes Go.Deep Go.Joins Go.Proofs.YtalkkenkeilmpaaGreat.Ev
set_option linter.unusedSimpArgs false
set_option linter.unusedVariables false
section
variable {H : Type} {enc : TypeId × Value → H} {w : World} {base : Nat} {spare : Nat → Bool} {held : Bool}
set_option maxRecDepth 100000 in
theorem open_bytes {v : Value} {d : DataW H} {p : List MemPlace} (hv : ∃ a len cap, v = .slice a len cap) (h : DataW.Trod enc Tryz.prog w base spare held 22 v d p) : ∃ L : List Int, (L.length ≤ 9223372036854775807 ∧ ∀ x ∈ L, 0 ≤ x ∧ x ≤ 255) ∧ Rep w (all w) v ((aSl (.i .u8)).enc L) := by
  obtain ⟨a0, len0, cap0, rfl⟩ := hv
  obtain ⟨fuel, hf⟩ := h
  rcases DataW.trod_slice Tryz.underlying22 hf with ⟨hcs, _⟩ | ⟨a, len, cap, elems, rest, m, hm, hcs, _, hbk, hle, hmx, hel, hi, _, _⟩
  · simp [Value.cells] at hcs
    obtain ⟨rfl, rfl, rfl⟩ := hcs
    exact ⟨[], ⟨by simp, fun x hx => by cases hx⟩, Rep.sl none 0 (.i .u8) [] (fun _ _ => undef) (Nat.le_refl _) (fun _ => rfl) (fun j hj => by cases hj) (fun j c hj => by cases hj)⟩
  · simp [Value.cells] at hcs
    obtain ⟨rfl, rfl, rfl⟩ := hcs
    have hC : Tryz.prog.cellsOf 5 = 1 := by kernel_rfl
    rw [hC] at hi
    have hex : ∀ i, i < len0 → ∃ s : Int, (0 ≤ s ∧ s ≤ 255) ∧ ∀ c, c < 1 → ∃ u, w.cell? (a.add (i * 1 + c)) = some u ∧ Rep w (all w) u ((El.i .u8).cell s c) := by
      intro i hil
      have hi' := hi i hil
      rw [List.getElem?_eq_getElem (by omega)] at hi'
      obtain ⟨cs', hc1, hc2⟩ := Option.bind_eq_some_iff.1 hi'
      obtain ⟨_, hcl, hat⟩ := World.cells?_some hc1
      match cs', hcl with
      | [c1], _ =>
        obtain ⟨i0, f0, _, wf⟩ := DataW.trod_int Tryz.underlying5 hc2
        obtain rfl : c1 = .int .u8 i0 := by simpa using f0
        refine ⟨i0, by simpa [Lit.wf, IntKind.min, IntKind.max, IntKind.signed, IntKind.bits] using wf, fun c hc => ?_⟩
        have h1 := hat c hc
        rw [Go.Deep.add_add] at h1
        match c, hc with
        | 0, _ => exact ⟨_, h1, Rep.v _⟩
    obtain ⟨f, hf⟩ : ∃ f : Nat → Int, ∀ i, i < len0 → (0 ≤ f i ∧ f i ≤ 255) ∧ ∀ c, c < 1 → ∃ u, w.cell? (a.add (i * 1 + c)) = some u ∧ Rep w (all w) u ((El.i .u8).cell (f i) c) := by
      classical
      refine ⟨fun i => if h : i < len0 then Classical.choose (hex i h) else default, fun i hil => ?_⟩
      simp only [hil, dite_true]
      exact Classical.choose_spec (hex i hil)
    have hlen2 : ((List.range len0).map f).length = len0 := by simp
    have hget : ∀ j, j < len0 → ((List.range len0).map f).getD j default = f j := fun j hj => by simp [List.getD_eq_getElem?_getD, hj]
    have hmax : len0 ≤ 9223372036854775807 := by have := hmx; unfold maxLen at this; omega
    refine ⟨(List.range len0).map f, ⟨by rw [hlen2]; exact hmax, fun x hx => by obtain ⟨i, hi, rfl⟩ := List.mem_map.1 hx; exact (hf i (List.mem_range.1 hi)).1⟩, ?_⟩
    have key : Rep w (all w) (.slice (some a) ((List.range len0).map f).length cap0) (.sl (.i .u8) ((List.range len0).map f)) := by
      refine Rep.sl (some a) cap0 (.i .u8) ((List.range len0).map f) (fun j c => (w.cell? (a.add (j * 1 + c))).getD undef) (by rw [hlen2]; exact hle) (fun h => by cases h) (fun j hj => ?_) (fun j c hj hc => ?_)
      · rw [hlen2] at hj
        obtain ⟨u0, hu0, _⟩ := (hf 0 (by omega)).2 0 (by omega)
        have hsp : a.spot = none := by simpa [Addr.add] using cell_spot hu0
        have hbl : a.block < w.heap.size := by simpa [Addr.add] using cell_lt hu0
        refine ⟨a, rfl, hsp, hbl, fun c hc => ?_⟩
        obtain ⟨u, hu, _⟩ := (hf j hj).2 c hc
        have ea : a.add (j * 1 + c) = ⟨a.block, a.off + (j * 1 + c), none⟩ := by
          unfold Addr.add; split
          · rename_i h0; rw [h0]; cases a; simp at hsp; subst hsp; rfl
          · rfl
        show w.cell? ⟨a.block, a.off + (j * 1 + c), none⟩ = some ((w.cell? (a.add (j * 1 + c))).getD undef)
        rw [← ea, hu]; rfl
      · rw [hlen2] at hj
        rw [hget j hj]
        obtain ⟨u, hu, hr⟩ := (hf j hj).2 c hc
        simp only [hu, Option.getD_some]; exact hr
    rwa [hlen2] at key
theorem dec_bytes (L : List Int) : (aSl (.i .u8)).dec ((aSl (.i .u8)).enc L) = some L := rfl
end
end Go.Proofs.YtalkkenkeilmpaaGreat.Q
