/- Go functions told as plain Lean functions; that the code does what these tell. Printed by a program of the session (evp.py). -/
import Derived.Test.YtlkcpldohlemcaaEv16
import Derived.Test.YtlkcpldohlemcaaG4
namespace Go.Proofs.Ytlkcpldohlemcaa.G
open Go Go.RowKit Go.Proofs Go.Proofs.Ytlkcpldohlemcaa.Ev
set_option linter.unusedVariables false
set_option maxRecDepth 100000

noncomputable def impl_room.H12 : Hd := ⟨[], [0, 3, 6, 8, 11, 12, 13, 23, 24, 25, 36, 37, 38], [3, 6, 8], []⟩
@[reducible] def impl_room.A12 : Type := (((List S4) × Unit × Unit × Unit × (List S4) × Int × Int × (List S4) × Int × Int × (List S4) × Int × Int × Unit) × (S4 × S4 × S4 × Unit))
noncomputable def impl_room.Z12 : SC impl_room.A12 := sC impl_room.H12 (eCons 0 (tP (aSl .s4)) (eCons 3 (tRef 3 0) (eCons 6 (tRef 6 0) (eCons 8 (tRef 8 0) (eCons 11 (tP (aSl .s4)) (eCons 12 (tP (aI .i64)) (eCons 13 (tP (aI .i64)) (eCons 23 (tP (aSl .s4)) (eCons 24 (tP (aI .i64)) (eCons 25 (tP (aI .i64)) (eCons 36 (tP (aSl .s4)) (eCons 37 (tP (aI .i64)) (eCons 38 (tP (aI .i64)) eNil))))))))))))) (bCons 3 (xVr cS4) (bCons 6 (xVr cS4) (bCons 8 (xVr cS4) bNil)))
@[reducible] def impl_room.B12 : Type := ((Bool × Unit) × (Unit)) ⊕ (((List S4) × Unit × Unit × (List S4) × Int × Int × (List S4) × Int × Int × Unit) × (S4 × S4 × Unit))
noncomputable def impl_room.X12 : XC impl_room.B12 := xOr (xRet (sC ⟨[], [4], [], []⟩ (eCons 4 (tP aB) eNil) bNil)) (xExit 4 (sC ⟨[], [0, 3, 6, 11, 12, 13, 23, 24, 25], [3, 6], []⟩ (eCons 0 (tP (aSl .s4)) (eCons 3 (tRef 3 0) (eCons 6 (tRef 6 0) (eCons 11 (tP (aSl .s4)) (eCons 12 (tP (aI .i64)) (eCons 13 (tP (aI .i64)) (eCons 23 (tP (aSl .s4)) (eCons 24 (tP (aI .i64)) (eCons 25 (tP (aI .i64)) eNil))))))))) (bCons 3 (xVr cS4) (bCons 6 (xVr cS4) bNil))))
noncomputable def impl_room.s12 (k : Nat)  (J : (List S4) → (List S4) → Int → Int → (List S4) → Int → Int → (List S4) → Int → Int → S4 → S4 → S4 → Option impl_room.B12) (x0 : List S4) (x11 : List S4) (x12 : Int) (x13 : Int) (x23 : List S4) (x24 : Int) (x25 : Int) (x36 : List S4) (x37 : Int) (x38 : Int) (b3 : S4) (b6 : S4) (b8 : S4) : Option impl_room.B12 :=
  if (decide (x38 < x37)) = true then (if 0 ≤ x38 then (if x38 < (x36.length : Int) then ((impl_clash4.f k  (rd x36 x38) b8 b6 b3).bind fun t3 => if t3 = true then (some (.inl ((false, ()), (())))) else (J x0 x11 x12 x13 x23 x24 x25 x36 x37 (W (x38 + 1)) b3 b6 b8)) else none) else none) else (some (.inr ((x0, (), (), x11, x12, x13, x23, x24, x25, ()), (b3, b6, ()))))
noncomputable def impl_room.l12 (k : Nat)  : Nat → (List S4) → (List S4) → Int → Int → (List S4) → Int → Int → (List S4) → Int → Int → S4 → S4 → S4 → Option impl_room.B12
  | 0, _, _, _, _, _, _, _, _, _, _, _, _, _ => none
  | n + 1, x0, x11, x12, x13, x23, x24, x25, x36, x37, x38, b3, b6, b8 => impl_room.s12 k (impl_room.l12 k n) x0 x11 x12 x13 x23 x24 x25 x36 x37 x38 b3 b6 b8
noncomputable def impl_room.H7 : Hd := ⟨[], [0, 3, 6, 11, 12, 13, 23, 24, 25], [3, 6], []⟩
@[reducible] def impl_room.A7 : Type := (((List S4) × Unit × Unit × (List S4) × Int × Int × (List S4) × Int × Int × Unit) × (S4 × S4 × Unit))
noncomputable def impl_room.Z7 : SC impl_room.A7 := sC impl_room.H7 (eCons 0 (tP (aSl .s4)) (eCons 3 (tRef 3 0) (eCons 6 (tRef 6 0) (eCons 11 (tP (aSl .s4)) (eCons 12 (tP (aI .i64)) (eCons 13 (tP (aI .i64)) (eCons 23 (tP (aSl .s4)) (eCons 24 (tP (aI .i64)) (eCons 25 (tP (aI .i64)) eNil))))))))) (bCons 3 (xVr cS4) (bCons 6 (xVr cS4) bNil))
@[reducible] def impl_room.B7 : Type := ((Bool × Unit) × (Unit)) ⊕ (((List S4) × Unit × (List S4) × Int × Int × Unit) × (S4 × Unit))
noncomputable def impl_room.X7 : XC impl_room.B7 := xOr (xRet (sC ⟨[], [4], [], []⟩ (eCons 4 (tP aB) eNil) bNil)) (xExit 2 (sC ⟨[], [0, 3, 11, 12, 13], [3], []⟩ (eCons 0 (tP (aSl .s4)) (eCons 3 (tRef 3 0) (eCons 11 (tP (aSl .s4)) (eCons 12 (tP (aI .i64)) (eCons 13 (tP (aI .i64)) eNil))))) (bCons 3 (xVr cS4) bNil)))
noncomputable def impl_room.s7 (k : Nat)  (J : (List S4) → (List S4) → Int → Int → (List S4) → Int → Int → S4 → S4 → Option impl_room.B7) (x0 : List S4) (x11 : List S4) (x12 : Int) (x13 : Int) (x23 : List S4) (x24 : Int) (x25 : Int) (b3 : S4) (b6 : S4) : Option impl_room.B7 :=
  if (decide (x25 < x24)) = true then (if 0 ≤ x25 then (if x25 < (x23.length : Int) then ((impl_clash3.f k  (rd x23 x25) b6 b3).bind fun t2 => if t2 = true then (some (.inl ((false, ()), (())))) else (if 0 ≤ x25 then (if x25 ≤ (x0.length : Int) then ((impl_room.l12 k k x0 x11 x12 x13 x23 x24 x25 (x0.take x25.toNat) ((x0.take x25.toNat).length : Int) 0 b3 b6 (rd x23 x25)).bind fun | .inl r4 => (some (.inl ((r4.1.1, ()), (())))) | .inr x5 => (J x5.1.1 x5.1.2.2.2.1 x5.1.2.2.2.2.1 x5.1.2.2.2.2.2.1 x5.1.2.2.2.2.2.2.1 x5.1.2.2.2.2.2.2.2.1 (W (x5.1.2.2.2.2.2.2.2.2.1 + 1)) x5.2.1 x5.2.2.1)) else none) else none)) else none) else none) else (some (.inr ((x0, (), x11, x12, x13, ()), (b3, ()))))
noncomputable def impl_room.l7 (k : Nat)  : Nat → (List S4) → (List S4) → Int → Int → (List S4) → Int → Int → S4 → S4 → Option impl_room.B7
  | 0, _, _, _, _, _, _, _, _, _ => none
  | n + 1, x0, x11, x12, x13, x23, x24, x25, b3, b6 => impl_room.s7 k (impl_room.l7 k n) x0 x11 x12 x13 x23 x24 x25 b3 b6
noncomputable def impl_room.H2 : Hd := ⟨[], [0, 3, 11, 12, 13], [3], []⟩
@[reducible] def impl_room.A2 : Type := (((List S4) × Unit × (List S4) × Int × Int × Unit) × (S4 × Unit))
noncomputable def impl_room.Z2 : SC impl_room.A2 := sC impl_room.H2 (eCons 0 (tP (aSl .s4)) (eCons 3 (tRef 3 0) (eCons 11 (tP (aSl .s4)) (eCons 12 (tP (aI .i64)) (eCons 13 (tP (aI .i64)) eNil))))) (bCons 3 (xVr cS4) bNil)
@[reducible] def impl_room.B2 : Type := ((Bool × Unit) × (Unit)) ⊕ ((Unit) × (Unit))
noncomputable def impl_room.X2 : XC impl_room.B2 := xOr (xRet (sC ⟨[], [4], [], []⟩ (eCons 4 (tP aB) eNil) bNil)) (xExit 0 (sC ⟨[], [], [], []⟩ eNil bNil))
noncomputable def impl_room.s2 (k : Nat)  (J : (List S4) → (List S4) → Int → Int → S4 → Option impl_room.B2) (x0 : List S4) (x11 : List S4) (x12 : Int) (x13 : Int) (b3 : S4) : Option impl_room.B2 :=
  if (decide (x13 < x12)) = true then (if 0 ≤ x13 then (if x13 < (x11.length : Int) then ((impl_clash2.f k  (rd x11 x13) b3).bind fun t1 => if t1 = true then (some (.inl ((false, ()), (())))) else (if 0 ≤ x13 then (if x13 ≤ (x0.length : Int) then ((impl_room.l7 k k x0 x11 x12 x13 (x0.take x13.toNat) ((x0.take x13.toNat).length : Int) 0 b3 (rd x11 x13)).bind fun | .inl r6 => (some (.inl ((r6.1.1, ()), (())))) | .inr x7 => (J x7.1.1 x7.1.2.2.1 x7.1.2.2.2.1 (W (x7.1.2.2.2.2.1 + 1)) x7.2.1)) else none) else none)) else none) else none) else (some (.inr ((()), (()))))
noncomputable def impl_room.l2 (k : Nat)  : Nat → (List S4) → (List S4) → Int → Int → S4 → Option impl_room.B2
  | 0, _, _, _, _, _ => none
  | n + 1, x0, x11, x12, x13, b3 => impl_room.s2 k (impl_room.l2 k n) x0 x11 x12 x13 b3
noncomputable def impl_room.f (k : Nat) (a0 : List S4) (a1 : S4) : Option Bool :=
  (impl_room.l2 k k a0 a0 (a0.length : Int) 0 a1).bind fun | .inl r8 => (some r8.1.1) | .inr x9 => (some true)
noncomputable def impl_room.e (k : Nat) : FE := { α := (List S4) × S4 × Unit, β := Bool, args := (lCons (aSl .s4) (lCons aS4 lNil)), ret := (rOne aB), f := fun p => impl_room.f k p.1 p.2.1 }
noncomputable def impl_room.c (k : Nat) : List (Nat × CE) := [(205, .fn (impl_clash2.e k)), (206, .fn (impl_clash3.e k)), (207, .fn (impl_clash4.e k))]
noncomputable def impl_room.bd : Code := match Try.f165.body with | some c => c | none => .skip
noncomputable def impl_room.e12 (k : Nat) : LE := { H := impl_room.H12, α := impl_room.A12, β := impl_room.B12, st := impl_room.Z12, xt := impl_room.X12, f := fun p => impl_room.l12 k k p.1.1 p.1.2.2.2.2.1 p.1.2.2.2.2.2.1 p.1.2.2.2.2.2.2.1 p.1.2.2.2.2.2.2.2.1 p.1.2.2.2.2.2.2.2.2.1 p.1.2.2.2.2.2.2.2.2.2.1 p.1.2.2.2.2.2.2.2.2.2.2.1 p.1.2.2.2.2.2.2.2.2.2.2.2.1 p.1.2.2.2.2.2.2.2.2.2.2.2.2.1 p.2.1 p.2.2.1 p.2.2.2.1 }
noncomputable def impl_room.e7 (k : Nat) : LE := { H := impl_room.H7, α := impl_room.A7, β := impl_room.B7, st := impl_room.Z7, xt := impl_room.X7, f := fun p => impl_room.l7 k k p.1.1 p.1.2.2.2.1 p.1.2.2.2.2.1 p.1.2.2.2.2.2.1 p.1.2.2.2.2.2.2.1 p.1.2.2.2.2.2.2.2.1 p.1.2.2.2.2.2.2.2.2.1 p.2.1 p.2.2.1 }
noncomputable def impl_room.e2 (k : Nat) : LE := { H := impl_room.H2, α := impl_room.A2, β := impl_room.B2, st := impl_room.Z2, xt := impl_room.X2, f := fun p => impl_room.l2 k k p.1.1 p.1.2.2.1 p.1.2.2.2.1 p.1.2.2.2.2.1 p.2.1 }
noncomputable def impl_room.g (k : Nat) : List (Nat × LE) := [(12, impl_room.e12 k), (7, impl_room.e7 k), (2, impl_room.e2 k)]
theorem impl_room.t12 (k : Nat) (I : S2 → Option impl_room.B12) (x0 : List S4) (x11 : List S4) (x12 : Int) (x13 : Int) (x23 : List S4) (x24 : Int) (x25 : Int) (x36 : List S4) (x37 : Int) (x38 : Int) (b3 : S4) (b6 : S4) (b8 : S4) : stepOf (mkCx Try.prog (impl_room.c k) (impl_room.g k) : Cx impl_room.B12) (loopAt (loopAt (loopAt impl_room.bd 0) 0) 0) impl_room.H12 impl_room.X12.dec I (impl_room.Z12.enc ((x0, (), (), (), x11, x12, x13, x23, x24, x25, x36, x37, x38, ()), (b3, b6, b8, ()))) = impl_room.s12 k (fun x0 x11 x12 x13 x23 x24 x25 x36 x37 x38 b3 b6 b8 => I (impl_room.Z12.enc ((x0, (), (), (), x11, x12, x13, x23, x24, x25, x36, x37, x38, ()), (b3, b6, b8, ())))) x0 x11 x12 x13 x23 x24 x25 x36 x37 x38 b3 b6 b8 := by kernel_rfl
theorem impl_room.i12 (k : Nat) : ∀ (n : Nat) (x0 : List S4) (x11 : List S4) (x12 : Int) (x13 : Int) (x23 : List S4) (x24 : Int) (x25 : Int) (x36 : List S4) (x37 : Int) (x38 : Int) (b3 : S4) (b6 : S4) (b8 : S4), iter (evCode (mkCx Try.prog (impl_room.c k) (impl_room.g k) : Cx impl_room.B12) (loopAt (loopAt (loopAt impl_room.bd 0) 0) 0)) impl_room.H12 impl_room.X12.dec n (impl_room.Z12.enc ((x0, (), (), (), x11, x12, x13, x23, x24, x25, x36, x37, x38, ()), (b3, b6, b8, ()))) = impl_room.l12 k n x0 x11 x12 x13 x23 x24 x25 x36 x37 x38 b3 b6 b8
  | 0, _, _, _, _, _, _, _, _, _, _, _, _, _ => rfl
  | n + 1, x0, x11, x12, x13, x23, x24, x25, x36, x37, x38, b3, b6, b8 => ((iter_step _ _ _ _ n _).trans (impl_room.t12 k _ x0 x11 x12 x13 x23 x24 x25 x36 x37 x38 b3 b6 b8)).trans (congrArg (fun J => impl_room.s12 k J x0 x11 x12 x13 x23 x24 x25 x36 x37 x38 b3 b6 b8) (funext fun x0 => funext fun x11 => funext fun x12 => funext fun x13 => funext fun x23 => funext fun x24 => funext fun x25 => funext fun x36 => funext fun x37 => funext fun x38 => funext fun b3 => funext fun b6 => funext fun b8 => impl_room.i12 k n x0 x11 x12 x13 x23 x24 x25 x36 x37 x38 b3 b6 b8))
theorem impl_room.t7 (k : Nat) (I : S2 → Option impl_room.B7) (x0 : List S4) (x11 : List S4) (x12 : Int) (x13 : Int) (x23 : List S4) (x24 : Int) (x25 : Int) (b3 : S4) (b6 : S4) : stepOf (mkCx Try.prog (impl_room.c k) (impl_room.g k) : Cx impl_room.B7) (loopAt (loopAt impl_room.bd 0) 0) impl_room.H7 impl_room.X7.dec I (impl_room.Z7.enc ((x0, (), (), x11, x12, x13, x23, x24, x25, ()), (b3, b6, ()))) = impl_room.s7 k (fun x0 x11 x12 x13 x23 x24 x25 b3 b6 => I (impl_room.Z7.enc ((x0, (), (), x11, x12, x13, x23, x24, x25, ()), (b3, b6, ())))) x0 x11 x12 x13 x23 x24 x25 b3 b6 := by kernel_rfl
theorem impl_room.i7 (k : Nat) : ∀ (n : Nat) (x0 : List S4) (x11 : List S4) (x12 : Int) (x13 : Int) (x23 : List S4) (x24 : Int) (x25 : Int) (b3 : S4) (b6 : S4), iter (evCode (mkCx Try.prog (impl_room.c k) (impl_room.g k) : Cx impl_room.B7) (loopAt (loopAt impl_room.bd 0) 0)) impl_room.H7 impl_room.X7.dec n (impl_room.Z7.enc ((x0, (), (), x11, x12, x13, x23, x24, x25, ()), (b3, b6, ()))) = impl_room.l7 k n x0 x11 x12 x13 x23 x24 x25 b3 b6
  | 0, _, _, _, _, _, _, _, _, _ => rfl
  | n + 1, x0, x11, x12, x13, x23, x24, x25, b3, b6 => ((iter_step _ _ _ _ n _).trans (impl_room.t7 k _ x0 x11 x12 x13 x23 x24 x25 b3 b6)).trans (congrArg (fun J => impl_room.s7 k J x0 x11 x12 x13 x23 x24 x25 b3 b6) (funext fun x0 => funext fun x11 => funext fun x12 => funext fun x13 => funext fun x23 => funext fun x24 => funext fun x25 => funext fun b3 => funext fun b6 => impl_room.i7 k n x0 x11 x12 x13 x23 x24 x25 b3 b6))
theorem impl_room.t2 (k : Nat) (I : S2 → Option impl_room.B2) (x0 : List S4) (x11 : List S4) (x12 : Int) (x13 : Int) (b3 : S4) : stepOf (mkCx Try.prog (impl_room.c k) (impl_room.g k) : Cx impl_room.B2) (loopAt impl_room.bd 0) impl_room.H2 impl_room.X2.dec I (impl_room.Z2.enc ((x0, (), x11, x12, x13, ()), (b3, ()))) = impl_room.s2 k (fun x0 x11 x12 x13 b3 => I (impl_room.Z2.enc ((x0, (), x11, x12, x13, ()), (b3, ())))) x0 x11 x12 x13 b3 := by kernel_rfl
theorem impl_room.i2 (k : Nat) : ∀ (n : Nat) (x0 : List S4) (x11 : List S4) (x12 : Int) (x13 : Int) (b3 : S4), iter (evCode (mkCx Try.prog (impl_room.c k) (impl_room.g k) : Cx impl_room.B2) (loopAt impl_room.bd 0)) impl_room.H2 impl_room.X2.dec n (impl_room.Z2.enc ((x0, (), x11, x12, x13, ()), (b3, ()))) = impl_room.l2 k n x0 x11 x12 x13 b3
  | 0, _, _, _, _, _ => rfl
  | n + 1, x0, x11, x12, x13, b3 => ((iter_step _ _ _ _ n _).trans (impl_room.t2 k _ x0 x11 x12 x13 b3)).trans (congrArg (fun J => impl_room.s2 k J x0 x11 x12 x13 b3) (funext fun x0 => funext fun x11 => funext fun x12 => funext fun x13 => funext fun b3 => impl_room.i2 k n x0 x11 x12 x13 b3))
theorem impl_room.to12 (k : Nat) (hC : AllFun Try.prog (impl_room.c k)) : LoopTo Try.prog 50 (impl_room.e12 k) (loopAt (loopAt (loopAt impl_room.bd 0) 0) 0) := loop_to mixed hC (by kernel_rfl) (loops_all 0 (by kernel_rfl) fun i hi => absurd hi (Nat.not_lt_zero i)) fun a b h => ⟨k, (impl_room.i12 k k a.1.1 a.1.2.2.2.2.1 a.1.2.2.2.2.2.1 a.1.2.2.2.2.2.2.1 a.1.2.2.2.2.2.2.2.1 a.1.2.2.2.2.2.2.2.2.1 a.1.2.2.2.2.2.2.2.2.2.1 a.1.2.2.2.2.2.2.2.2.2.2.1 a.1.2.2.2.2.2.2.2.2.2.2.2.1 a.1.2.2.2.2.2.2.2.2.2.2.2.2.1 a.2.1 a.2.2.1 a.2.2.2.1).trans h⟩
theorem impl_room.to7 (k : Nat) (hC : AllFun Try.prog (impl_room.c k)) : LoopTo Try.prog 50 (impl_room.e7 k) (loopAt (loopAt impl_room.bd 0) 0) := loop_to mixed hC (by kernel_rfl) (loops_all 1 (by kernel_rfl) fun i hi => by obtain rfl : i = 0 := Nat.lt_one_iff.1 hi; exact ⟨impl_room.e12 k, by kernel_rfl, impl_room.to12 k hC⟩) fun a b h => ⟨k, (impl_room.i7 k k a.1.1 a.1.2.2.2.1 a.1.2.2.2.2.1 a.1.2.2.2.2.2.1 a.1.2.2.2.2.2.2.1 a.1.2.2.2.2.2.2.2.1 a.1.2.2.2.2.2.2.2.2.1 a.2.1 a.2.2.1).trans h⟩
theorem impl_room.to2 (k : Nat) (hC : AllFun Try.prog (impl_room.c k)) : LoopTo Try.prog 50 (impl_room.e2 k) (loopAt impl_room.bd 0) := loop_to mixed hC (by kernel_rfl) (loops_all 1 (by kernel_rfl) fun i hi => by obtain rfl : i = 0 := Nat.lt_one_iff.1 hi; exact ⟨impl_room.e7 k, by kernel_rfl, impl_room.to7 k hC⟩) fun a b h => ⟨k, (impl_room.i2 k k a.1.1 a.1.2.2.1 a.1.2.2.2.1 a.1.2.2.2.2.1 a.2.1).trans h⟩
theorem impl_room.link (k : Nat) (a0 : List S4) (a1 : S4) : evFun (mkCx Try.prog (impl_room.c k) (impl_room.g k) : Cx Bool) Try.f165 ((impl_room.e k).args.enc (a0, a1, ())) (impl_room.e k).ret.dec = impl_room.f k a0 a1 := by kernel_rfl
theorem impl_room.ok1 (k : Nat) (hC : AllFun Try.prog (impl_room.c k)) : Fun Try.prog 165 (impl_room.e k).G := fun_ok mixed (body := impl_room.bd) Try.func165 (by kernel_rfl) (by kernel_rfl) (by kernel_rfl) hC (loops_all 1 (by kernel_rfl) fun i hi => by obtain rfl : i = 0 := Nat.lt_one_iff.1 hi; exact ⟨impl_room.e2 k, by kernel_rfl, impl_room.to2 k hC⟩) (impl_room.e k) (fun a => Nat.le_of_ble_eq_true (by kernel_rfl)) fun a b h => (impl_room.link k a.1 a.2.1).trans h
theorem impl_room.ok (k : Nat) : Fun Try.prog 165 (impl_room.e k).G := impl_room.ok1 k ⟨impl_clash2.ok k, impl_clash3.ok k, impl_clash4.ok k, trivial⟩

noncomputable def impl_open.H2 : Hd := ⟨[], [0, 5, 6, 7], [], []⟩
@[reducible] def impl_open.A2 : Type := (((List S4) × (List S4) × Int × Int × Unit) × (Unit))
noncomputable def impl_open.Z2 : SC impl_open.A2 := sC impl_open.H2 (eCons 0 (tP (aSl .s4)) (eCons 5 (tP (aSl .s4)) (eCons 6 (tP (aI .i64)) (eCons 7 (tP (aI .i64)) eNil)))) bNil
@[reducible] def impl_open.B2 : Type := ((Bool × Unit) × (Unit)) ⊕ ((Unit) × (Unit))
noncomputable def impl_open.X2 : XC impl_open.B2 := xOr (xRet (sC ⟨[], [2], [], []⟩ (eCons 2 (tP aB) eNil) bNil)) (xExit 0 (sC ⟨[], [], [], []⟩ eNil bNil))
noncomputable def impl_open.s2 (k : Nat)  (J : (List S4) → (List S4) → Int → Int → Option impl_open.B2) (x0 : List S4) (x5 : List S4) (x6 : Int) (x7 : Int) : Option impl_open.B2 :=
  if (decide (x7 < x6)) = true then (if 0 ≤ x7 then (if x7 < (x5.length : Int) then (if 0 ≤ x7 then (if x7 ≤ (x0.length : Int) then ((impl_room.f k  (x0.take x7.toNat) (rd x5 x7)).bind fun t1 => if (!t1) = true then (some (.inl ((false, ()), (())))) else (J x0 x5 x6 (W (x7 + 1)))) else none) else none) else none) else none) else (some (.inr ((()), (()))))
noncomputable def impl_open.l2 (k : Nat)  : Nat → (List S4) → (List S4) → Int → Int → Option impl_open.B2
  | 0, _, _, _, _ => none
  | n + 1, x0, x5, x6, x7 => impl_open.s2 k (impl_open.l2 k n) x0 x5 x6 x7
noncomputable def impl_open.f (k : Nat) (a0 : List S4) : Option Bool :=
  (impl_open.l2 k k a0 a0 (a0.length : Int) 0).bind fun | .inl r2 => (some r2.1.1) | .inr x3 => (some true)
noncomputable def impl_open.e (k : Nat) : FE := { α := (List S4) × Unit, β := Bool, args := (lCons (aSl .s4) lNil), ret := (rOne aB), f := fun p => impl_open.f k p.1 }
noncomputable def impl_open.c (k : Nat) : List (Nat × CE) := [(165, .fn (impl_room.e k))]
noncomputable def impl_open.bd : Code := match Try.f98.body with | some c => c | none => .skip
noncomputable def impl_open.e2 (k : Nat) : LE := { H := impl_open.H2, α := impl_open.A2, β := impl_open.B2, st := impl_open.Z2, xt := impl_open.X2, f := fun p => impl_open.l2 k k p.1.1 p.1.2.1 p.1.2.2.1 p.1.2.2.2.1 }
noncomputable def impl_open.g (k : Nat) : List (Nat × LE) := [(2, impl_open.e2 k)]
theorem impl_open.t2 (k : Nat) (I : S2 → Option impl_open.B2) (x0 : List S4) (x5 : List S4) (x6 : Int) (x7 : Int) : stepOf (mkCx Try.prog (impl_open.c k) (impl_open.g k) : Cx impl_open.B2) (loopAt impl_open.bd 0) impl_open.H2 impl_open.X2.dec I (impl_open.Z2.enc ((x0, x5, x6, x7, ()), (()))) = impl_open.s2 k (fun x0 x5 x6 x7 => I (impl_open.Z2.enc ((x0, x5, x6, x7, ()), (())))) x0 x5 x6 x7 := by kernel_rfl
theorem impl_open.i2 (k : Nat) : ∀ (n : Nat) (x0 : List S4) (x5 : List S4) (x6 : Int) (x7 : Int), iter (evCode (mkCx Try.prog (impl_open.c k) (impl_open.g k) : Cx impl_open.B2) (loopAt impl_open.bd 0)) impl_open.H2 impl_open.X2.dec n (impl_open.Z2.enc ((x0, x5, x6, x7, ()), (()))) = impl_open.l2 k n x0 x5 x6 x7
  | 0, _, _, _, _ => rfl
  | n + 1, x0, x5, x6, x7 => ((iter_step _ _ _ _ n _).trans (impl_open.t2 k _ x0 x5 x6 x7)).trans (congrArg (fun J => impl_open.s2 k J x0 x5 x6 x7) (funext fun x0 => funext fun x5 => funext fun x6 => funext fun x7 => impl_open.i2 k n x0 x5 x6 x7))
theorem impl_open.to2 (k : Nat) (hC : AllFun Try.prog (impl_open.c k)) : LoopTo Try.prog 19 (impl_open.e2 k) (loopAt impl_open.bd 0) := loop_to mixed hC (by kernel_rfl) (loops_all 0 (by kernel_rfl) fun i hi => absurd hi (Nat.not_lt_zero i)) fun a b h => ⟨k, (impl_open.i2 k k a.1.1 a.1.2.1 a.1.2.2.1 a.1.2.2.2.1).trans h⟩
theorem impl_open.link (k : Nat) (a0 : List S4) : evFun (mkCx Try.prog (impl_open.c k) (impl_open.g k) : Cx Bool) Try.f98 ((impl_open.e k).args.enc (a0, ())) (impl_open.e k).ret.dec = impl_open.f k a0 := by kernel_rfl
theorem impl_open.ok1 (k : Nat) (hC : AllFun Try.prog (impl_open.c k)) : Fun Try.prog 98 (impl_open.e k).G := fun_ok mixed (body := impl_open.bd) Try.func98 (by kernel_rfl) (by kernel_rfl) (by kernel_rfl) hC (loops_all 1 (by kernel_rfl) fun i hi => by obtain rfl : i = 0 := Nat.lt_one_iff.1 hi; exact ⟨impl_open.e2 k, by kernel_rfl, impl_open.to2 k hC⟩) (impl_open.e k) (fun a => Nat.le_of_ble_eq_true (by kernel_rfl)) fun a b h => (impl_open.link k a.1).trans h
theorem impl_open.ok (k : Nat) : Fun Try.prog 98 (impl_open.e k).G := impl_open.ok1 k ⟨impl_room.ok k, trivial⟩

noncomputable def impl_Open.f (k : Nat) (a0 : List S4) : Option Bool :=
  if (decide ((a0.length : Int) ≤ 24)) = true then ((impl_planesOk.f k  a0).bind fun t1 => if t1 = true then ((impl_open.f k  a0).bind fun t2 => some t2) else (some false)) else (some false)
noncomputable def impl_Open.e (k : Nat) : FE := { α := (List S4) × Unit, β := Bool, args := (lCons (aSl .s4) lNil), ret := (rOne aB), f := fun p => impl_Open.f k p.1 }
noncomputable def impl_Open.c (k : Nat) : List (Nat × CE) := [(97, .fn (impl_planesOk.e k)), (98, .fn (impl_open.e k))]
noncomputable def impl_Open.bd : Code := match Try.f81.body with | some c => c | none => .skip
noncomputable def impl_Open.g (k : Nat) : List (Nat × LE) := []
theorem impl_Open.link (k : Nat) (a0 : List S4) : evFun (mkCx Try.prog (impl_Open.c k) (impl_Open.g k) : Cx Bool) Try.f81 ((impl_Open.e k).args.enc (a0, ())) (impl_Open.e k).ret.dec = impl_Open.f k a0 := by kernel_rfl
theorem impl_Open.ok1 (k : Nat) (hC : AllFun Try.prog (impl_Open.c k)) : Fun Try.prog 81 (impl_Open.e k).G := fun_ok mixed (body := impl_Open.bd) Try.func81 (by kernel_rfl) (by kernel_rfl) (by kernel_rfl) hC (loops_all 0 (by kernel_rfl) fun i hi => absurd hi (Nat.not_lt_zero i)) (impl_Open.e k) (fun a => Nat.le_of_ble_eq_true (by kernel_rfl)) fun a b h => (impl_Open.link k a.1).trans h
theorem impl_Open.ok (k : Nat) : Fun Try.prog 81 (impl_Open.e k).G := impl_Open.ok1 k ⟨impl_planesOk.ok k, impl_open.ok k, trivial⟩

noncomputable def impl_with.f (k : Nat) (a0 : List S4) (a1 : S4) : Option (List S4) :=
  if lt47 (([] : List S4).length + a0.length) = true then (if lt47 ((([] : List S4) ++ a0).length + ([a1] : List S4).length) = true then (some ((([] : List S4) ++ a0) ++ ([a1] : List S4))) else none) else none
noncomputable def impl_with.e (k : Nat) : FE := { α := (List S4) × S4 × Unit, β := List S4, args := (lCons (aSl .s4) (lCons aS4 lNil)), ret := (rOwn 24 .s4), f := fun p => impl_with.f k p.1 p.2.1 }
noncomputable def impl_with.c (k : Nat) : List (Nat × CE) := []
noncomputable def impl_with.bd : Code := match Try.f103.body with | some c => c | none => .skip
noncomputable def impl_with.g (k : Nat) : List (Nat × LE) := []
theorem impl_with.link (k : Nat) (a0 : List S4) (a1 : S4) : evFun (mkCx Try.prog (impl_with.c k) (impl_with.g k) : Cx (List S4)) Try.f103 ((impl_with.e k).args.enc (a0, a1, ())) (impl_with.e k).ret.dec = impl_with.f k a0 a1 := by kernel_rfl
theorem impl_with.ok1 (k : Nat) (hC : AllFun Try.prog (impl_with.c k)) : Fun Try.prog 103 (impl_with.e k).G := fun_ok mixed (body := impl_with.bd) Try.func103 (by kernel_rfl) (by kernel_rfl) (by kernel_rfl) hC (loops_all 0 (by kernel_rfl) fun i hi => absurd hi (Nat.not_lt_zero i)) (impl_with.e k) (fun a => Nat.le_of_ble_eq_true (by kernel_rfl)) fun a b h => (impl_with.link k a.1 a.2.1).trans h
theorem impl_with.ok (k : Nat) : Fun Try.prog 103 (impl_with.e k).G := impl_with.ok1 k trivial

noncomputable def impl_OpenWith.f (k : Nat) (a0 : List S4) (a1 : S4) : Option Bool :=
  (impl_with.f k  a0 a1).bind fun t1 => (impl_Open.f k  t1).bind fun t2 => some t2
noncomputable def impl_OpenWith.e (k : Nat) : FE := { α := (List S4) × S4 × Unit, β := Bool, args := (lCons (aSl .s4) (lCons aS4 lNil)), ret := (rOne aB), f := fun p => impl_OpenWith.f k p.1 p.2.1 }
noncomputable def impl_OpenWith.c (k : Nat) : List (Nat × CE) := [(103, .fn (impl_with.e k)), (81, .fn (impl_Open.e k))]
noncomputable def impl_OpenWith.bd : Code := match Try.f75.body with | some c => c | none => .skip
noncomputable def impl_OpenWith.g (k : Nat) : List (Nat × LE) := []
theorem impl_OpenWith.link (k : Nat) (a0 : List S4) (a1 : S4) : evFun (mkCx Try.prog (impl_OpenWith.c k) (impl_OpenWith.g k) : Cx Bool) Try.f75 ((impl_OpenWith.e k).args.enc (a0, a1, ())) (impl_OpenWith.e k).ret.dec = impl_OpenWith.f k a0 a1 := by kernel_rfl
theorem impl_OpenWith.ok1 (k : Nat) (hC : AllFun Try.prog (impl_OpenWith.c k)) : Fun Try.prog 75 (impl_OpenWith.e k).G := fun_ok mixed (body := impl_OpenWith.bd) Try.func75 (by kernel_rfl) (by kernel_rfl) (by kernel_rfl) hC (loops_all 0 (by kernel_rfl) fun i hi => absurd hi (Nat.not_lt_zero i)) (impl_OpenWith.e k) (fun a => Nat.le_of_ble_eq_true (by kernel_rfl)) fun a b h => (impl_OpenWith.link k a.1 a.2.1).trans h
theorem impl_OpenWith.ok (k : Nat) : Fun Try.prog 75 (impl_OpenWith.e k).G := impl_OpenWith.ok1 k ⟨impl_with.ok k, impl_Open.ok k, trivial⟩

noncomputable def impl_flip.f (k : Nat) (a0 : S4) : Option S4 :=
  some (⟨(W (0 - a0.a)), (W (0 - a0.b)), (W (0 - a0.c)), (W (0 - a0.d))⟩ : S4)
noncomputable def impl_flip.e (k : Nat) : FE := { α := S4 × Unit, β := S4, args := (lCons aS4 lNil), ret := (rOne aS4), f := fun p => impl_flip.f k p.1 }
noncomputable def impl_flip.c (k : Nat) : List (Nat × CE) := []
noncomputable def impl_flip.bd : Code := match Try.f148.body with | some c => c | none => .skip
noncomputable def impl_flip.g (k : Nat) : List (Nat × LE) := []
theorem impl_flip.link (k : Nat) (a0 : S4) : evFun (mkCx Try.prog (impl_flip.c k) (impl_flip.g k) : Cx S4) Try.f148 ((impl_flip.e k).args.enc (a0, ())) (impl_flip.e k).ret.dec = impl_flip.f k a0 := by kernel_rfl
theorem impl_flip.ok1 (k : Nat) (hC : AllFun Try.prog (impl_flip.c k)) : Fun Try.prog 148 (impl_flip.e k).G := fun_ok mixed (body := impl_flip.bd) Try.func148 (by kernel_rfl) (by kernel_rfl) (by kernel_rfl) hC (loops_all 0 (by kernel_rfl) fun i hi => absurd hi (Nat.not_lt_zero i)) (impl_flip.e k) (fun a => Nat.le_of_ble_eq_true (by kernel_rfl)) fun a b h => (impl_flip.link k a.1).trans h
theorem impl_flip.ok (k : Nat) : Fun Try.prog 148 (impl_flip.e k).G := impl_flip.ok1 k trivial

noncomputable def impl_Flip.f (k : Nat) (a0 : S4) : Option S4 :=
  (impl_PlaneOk.f k  a0).bind fun t1 => if (!t1) = true then (some a0) else ((impl_flip.f k  a0).bind fun t2 => some t2)
noncomputable def impl_Flip.e (k : Nat) : FE := { α := S4 × Unit, β := S4, args := (lCons aS4 lNil), ret := (rOne aS4), f := fun p => impl_Flip.f k p.1 }
noncomputable def impl_Flip.c (k : Nat) : List (Nat × CE) := [(87, .fn (impl_PlaneOk.e k)), (148, .fn (impl_flip.e k))]
noncomputable def impl_Flip.bd : Code := match Try.f76.body with | some c => c | none => .skip
noncomputable def impl_Flip.g (k : Nat) : List (Nat × LE) := []
theorem impl_Flip.link (k : Nat) (a0 : S4) : evFun (mkCx Try.prog (impl_Flip.c k) (impl_Flip.g k) : Cx S4) Try.f76 ((impl_Flip.e k).args.enc (a0, ())) (impl_Flip.e k).ret.dec = impl_Flip.f k a0 := by kernel_rfl
theorem impl_Flip.ok1 (k : Nat) (hC : AllFun Try.prog (impl_Flip.c k)) : Fun Try.prog 76 (impl_Flip.e k).G := fun_ok mixed (body := impl_Flip.bd) Try.func76 (by kernel_rfl) (by kernel_rfl) (by kernel_rfl) hC (loops_all 0 (by kernel_rfl) fun i hi => absurd hi (Nat.not_lt_zero i)) (impl_Flip.e k) (fun a => Nat.le_of_ble_eq_true (by kernel_rfl)) fun a b h => (impl_Flip.link k a.1).trans h
theorem impl_Flip.ok (k : Nat) : Fun Try.prog 76 (impl_Flip.e k).G := impl_Flip.ok1 k ⟨impl_PlaneOk.ok k, impl_flip.ok k, trivial⟩

noncomputable def impl_Splits.f (k : Nat) (a0 : List S4) (a1 : S4) : Option Bool :=
  (impl_OpenWith.f k  a0 a1).bind fun t1 => if t1 = true then ((impl_Flip.f k  a1).bind fun t2 => (impl_OpenWith.f k  a0 t2).bind fun t3 => some t3) else (some false)
noncomputable def impl_Splits.e (k : Nat) : FE := { α := (List S4) × S4 × Unit, β := Bool, args := (lCons (aSl .s4) (lCons aS4 lNil)), ret := (rOne aB), f := fun p => impl_Splits.f k p.1 p.2.1 }
noncomputable def impl_Splits.c (k : Nat) : List (Nat × CE) := [(75, .fn (impl_OpenWith.e k)), (76, .fn (impl_Flip.e k))]
noncomputable def impl_Splits.bd : Code := match Try.f74.body with | some c => c | none => .skip
noncomputable def impl_Splits.g (k : Nat) : List (Nat × LE) := []
theorem impl_Splits.link (k : Nat) (a0 : List S4) (a1 : S4) : evFun (mkCx Try.prog (impl_Splits.c k) (impl_Splits.g k) : Cx Bool) Try.f74 ((impl_Splits.e k).args.enc (a0, a1, ())) (impl_Splits.e k).ret.dec = impl_Splits.f k a0 a1 := by kernel_rfl
theorem impl_Splits.ok1 (k : Nat) (hC : AllFun Try.prog (impl_Splits.c k)) : Fun Try.prog 74 (impl_Splits.e k).G := fun_ok mixed (body := impl_Splits.bd) Try.func74 (by kernel_rfl) (by kernel_rfl) (by kernel_rfl) hC (loops_all 0 (by kernel_rfl) fun i hi => absurd hi (Nat.not_lt_zero i)) (impl_Splits.e k) (fun a => Nat.le_of_ble_eq_true (by kernel_rfl)) fun a b h => (impl_Splits.link k a.1 a.2.1).trans h
theorem impl_Splits.ok (k : Nat) : Fun Try.prog 74 (impl_Splits.e k).G := impl_Splits.ok1 k ⟨impl_OpenWith.ok k, impl_Flip.ok k, trivial⟩

noncomputable def spec_l6Right.H2 : Hd := ⟨[], [0, 3], [], []⟩
@[reducible] def spec_l6Right.A2 : Type := (((List S4) × Int × Unit) × (Unit))
noncomputable def spec_l6Right.Z2 : SC spec_l6Right.A2 := sC spec_l6Right.H2 (eCons 0 (tP (aSl .s4)) (eCons 3 (tP (aI .i64)) eNil)) bNil
@[reducible] def spec_l6Right.B2 : Type := ((Bool × Unit) × (Unit)) ⊕ (((List S4) × Unit) × (Unit))
noncomputable def spec_l6Right.X2 : XC spec_l6Right.B2 := xOr (xRet (sC ⟨[], [2], [], []⟩ (eCons 2 (tP aB) eNil) bNil)) (xExit 0 (sC ⟨[], [0], [], []⟩ (eCons 0 (tP (aSl .s4)) eNil) bNil))
noncomputable def spec_l6Right.s2 (k : Nat)  (J : (List S4) → Int → Option spec_l6Right.B2) (x0 : List S4) (x3 : Int) : Option spec_l6Right.B2 :=
  if (decide (x3 < (x0.length : Int))) = true then (if 0 ≤ x3 then (if x3 < (x0.length : Int) then ((spec_PlaneOk.f k  (rd x0 x3)).bind fun t1 => if (!t1) = true then (some (.inl ((false, ()), (())))) else (J x0 (W (x3 + 1)))) else none) else none) else (some (.inr ((x0, ()), (()))))
noncomputable def spec_l6Right.l2 (k : Nat)  : Nat → (List S4) → Int → Option spec_l6Right.B2
  | 0, _, _ => none
  | n + 1, x0, x3 => spec_l6Right.s2 k (spec_l6Right.l2 k n) x0 x3
noncomputable def spec_l6Right.f (k : Nat) (a0 : List S4) : Option Bool :=
  (spec_l6Right.l2 k k a0 0).bind fun | .inl r2 => (some r2.1.1) | .inr x3 => (some (decide ((x3.1.1.length : Int) ≤ 24)))
noncomputable def spec_l6Right.e (k : Nat) : FE := { α := (List S4) × Unit, β := Bool, args := (lCons (aSl .s4) lNil), ret := (rOne aB), f := fun p => spec_l6Right.f k p.1 }
noncomputable def spec_l6Right.c (k : Nat) : List (Nat × CE) := [(67, .fn (spec_PlaneOk.e k))]
noncomputable def spec_l6Right.bd : Code := match Try.f94.body with | some c => c | none => .skip
noncomputable def spec_l6Right.e2 (k : Nat) : LE := { H := spec_l6Right.H2, α := spec_l6Right.A2, β := spec_l6Right.B2, st := spec_l6Right.Z2, xt := spec_l6Right.X2, f := fun p => spec_l6Right.l2 k k p.1.1 p.1.2.1 }
noncomputable def spec_l6Right.g (k : Nat) : List (Nat × LE) := [(2, spec_l6Right.e2 k)]
theorem spec_l6Right.t2 (k : Nat) (I : S2 → Option spec_l6Right.B2) (x0 : List S4) (x3 : Int) : stepOf (mkCx Try.prog (spec_l6Right.c k) (spec_l6Right.g k) : Cx spec_l6Right.B2) (loopAt spec_l6Right.bd 0) spec_l6Right.H2 spec_l6Right.X2.dec I (spec_l6Right.Z2.enc ((x0, x3, ()), (()))) = spec_l6Right.s2 k (fun x0 x3 => I (spec_l6Right.Z2.enc ((x0, x3, ()), (())))) x0 x3 := by kernel_rfl
theorem spec_l6Right.i2 (k : Nat) : ∀ (n : Nat) (x0 : List S4) (x3 : Int), iter (evCode (mkCx Try.prog (spec_l6Right.c k) (spec_l6Right.g k) : Cx spec_l6Right.B2) (loopAt spec_l6Right.bd 0)) spec_l6Right.H2 spec_l6Right.X2.dec n (spec_l6Right.Z2.enc ((x0, x3, ()), (()))) = spec_l6Right.l2 k n x0 x3
  | 0, _, _ => rfl
  | n + 1, x0, x3 => ((iter_step _ _ _ _ n _).trans (spec_l6Right.t2 k _ x0 x3)).trans (congrArg (fun J => spec_l6Right.s2 k J x0 x3) (funext fun x0 => funext fun x3 => spec_l6Right.i2 k n x0 x3))
theorem spec_l6Right.to2 (k : Nat) (hC : AllFun Try.prog (spec_l6Right.c k)) : LoopTo Try.prog 19 (spec_l6Right.e2 k) (loopAt spec_l6Right.bd 0) := loop_to mixed hC (by kernel_rfl) (loops_all 0 (by kernel_rfl) fun i hi => absurd hi (Nat.not_lt_zero i)) fun a b h => ⟨k, (spec_l6Right.i2 k k a.1.1 a.1.2.1).trans h⟩
theorem spec_l6Right.link (k : Nat) (a0 : List S4) : evFun (mkCx Try.prog (spec_l6Right.c k) (spec_l6Right.g k) : Cx Bool) Try.f94 ((spec_l6Right.e k).args.enc (a0, ())) (spec_l6Right.e k).ret.dec = spec_l6Right.f k a0 := by kernel_rfl
theorem spec_l6Right.ok1 (k : Nat) (hC : AllFun Try.prog (spec_l6Right.c k)) : Fun Try.prog 94 (spec_l6Right.e k).G := fun_ok mixed (body := spec_l6Right.bd) Try.func94 (by kernel_rfl) (by kernel_rfl) (by kernel_rfl) hC (loops_all 1 (by kernel_rfl) fun i hi => by obtain rfl : i = 0 := Nat.lt_one_iff.1 hi; exact ⟨spec_l6Right.e2 k, by kernel_rfl, spec_l6Right.to2 k hC⟩) (spec_l6Right.e k) (fun a => Nat.le_of_ble_eq_true (by kernel_rfl)) fun a b h => (spec_l6Right.link k a.1).trans h
theorem spec_l6Right.ok (k : Nat) : Fun Try.prog 94 (spec_l6Right.e k).G := spec_l6Right.ok1 k ⟨spec_PlaneOk.ok k, trivial⟩

noncomputable def spec_l6Open.H2 : Hd := ⟨[], [0, 3], [], []⟩
@[reducible] def spec_l6Open.A2 : Type := (((List S4) × Int × Unit) × (Unit))
noncomputable def spec_l6Open.Z2 : SC spec_l6Open.A2 := sC spec_l6Open.H2 (eCons 0 (tP (aSl .s4)) (eCons 3 (tP (aI .i64)) eNil)) bNil
@[reducible] def spec_l6Open.B2 : Type := ((Bool × Unit) × (Unit)) ⊕ ((Unit) × (Unit))
noncomputable def spec_l6Open.X2 : XC spec_l6Open.B2 := xOr (xRet (sC ⟨[], [2], [], []⟩ (eCons 2 (tP aB) eNil) bNil)) (xExit 0 (sC ⟨[], [], [], []⟩ eNil bNil))
noncomputable def spec_l6Open.s2 (k : Nat)  (J : (List S4) → Int → Option spec_l6Open.B2) (x0 : List S4) (x3 : Int) : Option spec_l6Open.B2 :=
  if (decide (x3 < (x0.length : Int))) = true then (if 0 ≤ x3 then (if x3 ≤ (x0.length : Int) then (if 0 ≤ x3 then (if x3 < (x0.length : Int) then ((spec_l6With.f k  (x0.take x3.toNat) (rd x0 x3)).bind fun t1 => if t1 = true then (some (.inl ((false, ()), (())))) else (J x0 (W (x3 + 1)))) else none) else none) else none) else none) else (some (.inr ((()), (()))))
noncomputable def spec_l6Open.l2 (k : Nat)  : Nat → (List S4) → Int → Option spec_l6Open.B2
  | 0, _, _ => none
  | n + 1, x0, x3 => spec_l6Open.s2 k (spec_l6Open.l2 k n) x0 x3
noncomputable def spec_l6Open.f (k : Nat) (a0 : List S4) : Option Bool :=
  (spec_l6Open.l2 k k a0 1).bind fun | .inl r2 => (some r2.1.1) | .inr x3 => (some true)
noncomputable def spec_l6Open.e (k : Nat) : FE := { α := (List S4) × Unit, β := Bool, args := (lCons (aSl .s4) lNil), ret := (rOne aB), f := fun p => spec_l6Open.f k p.1 }
noncomputable def spec_l6Open.c (k : Nat) : List (Nat × CE) := [(163, .fn (spec_l6With.e k))]
noncomputable def spec_l6Open.bd : Code := match Try.f95.body with | some c => c | none => .skip
noncomputable def spec_l6Open.e2 (k : Nat) : LE := { H := spec_l6Open.H2, α := spec_l6Open.A2, β := spec_l6Open.B2, st := spec_l6Open.Z2, xt := spec_l6Open.X2, f := fun p => spec_l6Open.l2 k k p.1.1 p.1.2.1 }
noncomputable def spec_l6Open.g (k : Nat) : List (Nat × LE) := [(2, spec_l6Open.e2 k)]
theorem spec_l6Open.t2 (k : Nat) (I : S2 → Option spec_l6Open.B2) (x0 : List S4) (x3 : Int) : stepOf (mkCx Try.prog (spec_l6Open.c k) (spec_l6Open.g k) : Cx spec_l6Open.B2) (loopAt spec_l6Open.bd 0) spec_l6Open.H2 spec_l6Open.X2.dec I (spec_l6Open.Z2.enc ((x0, x3, ()), (()))) = spec_l6Open.s2 k (fun x0 x3 => I (spec_l6Open.Z2.enc ((x0, x3, ()), (())))) x0 x3 := by kernel_rfl
theorem spec_l6Open.i2 (k : Nat) : ∀ (n : Nat) (x0 : List S4) (x3 : Int), iter (evCode (mkCx Try.prog (spec_l6Open.c k) (spec_l6Open.g k) : Cx spec_l6Open.B2) (loopAt spec_l6Open.bd 0)) spec_l6Open.H2 spec_l6Open.X2.dec n (spec_l6Open.Z2.enc ((x0, x3, ()), (()))) = spec_l6Open.l2 k n x0 x3
  | 0, _, _ => rfl
  | n + 1, x0, x3 => ((iter_step _ _ _ _ n _).trans (spec_l6Open.t2 k _ x0 x3)).trans (congrArg (fun J => spec_l6Open.s2 k J x0 x3) (funext fun x0 => funext fun x3 => spec_l6Open.i2 k n x0 x3))
theorem spec_l6Open.to2 (k : Nat) (hC : AllFun Try.prog (spec_l6Open.c k)) : LoopTo Try.prog 18 (spec_l6Open.e2 k) (loopAt spec_l6Open.bd 0) := loop_to mixed hC (by kernel_rfl) (loops_all 0 (by kernel_rfl) fun i hi => absurd hi (Nat.not_lt_zero i)) fun a b h => ⟨k, (spec_l6Open.i2 k k a.1.1 a.1.2.1).trans h⟩
theorem spec_l6Open.link (k : Nat) (a0 : List S4) : evFun (mkCx Try.prog (spec_l6Open.c k) (spec_l6Open.g k) : Cx Bool) Try.f95 ((spec_l6Open.e k).args.enc (a0, ())) (spec_l6Open.e k).ret.dec = spec_l6Open.f k a0 := by kernel_rfl
theorem spec_l6Open.ok1 (k : Nat) (hC : AllFun Try.prog (spec_l6Open.c k)) : Fun Try.prog 95 (spec_l6Open.e k).G := fun_ok mixed (body := spec_l6Open.bd) Try.func95 (by kernel_rfl) (by kernel_rfl) (by kernel_rfl) hC (loops_all 1 (by kernel_rfl) fun i hi => by obtain rfl : i = 0 := Nat.lt_one_iff.1 hi; exact ⟨spec_l6Open.e2 k, by kernel_rfl, spec_l6Open.to2 k hC⟩) (spec_l6Open.e k) (fun a => Nat.le_of_ble_eq_true (by kernel_rfl)) fun a b h => (spec_l6Open.link k a.1).trans h
theorem spec_l6Open.ok (k : Nat) : Fun Try.prog 95 (spec_l6Open.e k).G := spec_l6Open.ok1 k ⟨spec_l6With.ok k, trivial⟩

noncomputable def spec_Open.f (k : Nat) (a0 : List S4) : Option Bool :=
  (spec_l6Right.f k  a0).bind fun t1 => if t1 = true then ((spec_l6Open.f k  a0).bind fun t2 => some t2) else (some false)
noncomputable def spec_Open.e (k : Nat) : FE := { α := (List S4) × Unit, β := Bool, args := (lCons (aSl .s4) lNil), ret := (rOne aB), f := fun p => spec_Open.f k p.1 }
noncomputable def spec_Open.c (k : Nat) : List (Nat × CE) := [(94, .fn (spec_l6Right.e k)), (95, .fn (spec_l6Open.e k))]
noncomputable def spec_Open.bd : Code := match Try.f78.body with | some c => c | none => .skip
noncomputable def spec_Open.g (k : Nat) : List (Nat × LE) := []
theorem spec_Open.link (k : Nat) (a0 : List S4) : evFun (mkCx Try.prog (spec_Open.c k) (spec_Open.g k) : Cx Bool) Try.f78 ((spec_Open.e k).args.enc (a0, ())) (spec_Open.e k).ret.dec = spec_Open.f k a0 := by kernel_rfl
theorem spec_Open.ok1 (k : Nat) (hC : AllFun Try.prog (spec_Open.c k)) : Fun Try.prog 78 (spec_Open.e k).G := fun_ok mixed (body := spec_Open.bd) Try.func78 (by kernel_rfl) (by kernel_rfl) (by kernel_rfl) hC (loops_all 0 (by kernel_rfl) fun i hi => absurd hi (Nat.not_lt_zero i)) (spec_Open.e k) (fun a => Nat.le_of_ble_eq_true (by kernel_rfl)) fun a b h => (spec_Open.link k a.1).trans h
theorem spec_Open.ok (k : Nat) : Fun Try.prog 78 (spec_Open.e k).G := spec_Open.ok1 k ⟨spec_l6Right.ok k, spec_l6Open.ok k, trivial⟩

noncomputable def spec_OpenWith.f (k : Nat) (a0 : List S4) (a1 : S4) : Option Bool :=
  if lt47 (([] : List S4).length + a0.length) = true then (if lt47 ((([] : List S4) ++ a0).length + ([a1] : List S4).length) = true then ((spec_Open.f k  ((([] : List S4) ++ a0) ++ ([a1] : List S4))).bind fun t1 => some t1) else none) else none
noncomputable def spec_OpenWith.e (k : Nat) : FE := { α := (List S4) × S4 × Unit, β := Bool, args := (lCons (aSl .s4) (lCons aS4 lNil)), ret := (rOne aB), f := fun p => spec_OpenWith.f k p.1 p.2.1 }
noncomputable def spec_OpenWith.c (k : Nat) : List (Nat × CE) := [(78, .fn (spec_Open.e k))]
noncomputable def spec_OpenWith.bd : Code := match Try.f149.body with | some c => c | none => .skip
noncomputable def spec_OpenWith.g (k : Nat) : List (Nat × LE) := []
theorem spec_OpenWith.link (k : Nat) (a0 : List S4) (a1 : S4) : evFun (mkCx Try.prog (spec_OpenWith.c k) (spec_OpenWith.g k) : Cx Bool) Try.f149 ((spec_OpenWith.e k).args.enc (a0, a1, ())) (spec_OpenWith.e k).ret.dec = spec_OpenWith.f k a0 a1 := by kernel_rfl
theorem spec_OpenWith.ok1 (k : Nat) (hC : AllFun Try.prog (spec_OpenWith.c k)) : Fun Try.prog 149 (spec_OpenWith.e k).G := fun_ok mixed (body := spec_OpenWith.bd) Try.func149 (by kernel_rfl) (by kernel_rfl) (by kernel_rfl) hC (loops_all 0 (by kernel_rfl) fun i hi => absurd hi (Nat.not_lt_zero i)) (spec_OpenWith.e k) (fun a => Nat.le_of_ble_eq_true (by kernel_rfl)) fun a b h => (spec_OpenWith.link k a.1 a.2.1).trans h
theorem spec_OpenWith.ok (k : Nat) : Fun Try.prog 149 (spec_OpenWith.e k).G := spec_OpenWith.ok1 k ⟨spec_Open.ok k, trivial⟩

noncomputable def spec_Flip.f (k : Nat) (a0 : S4) : Option S4 :=
  (spec_PlaneOk.f k  a0).bind fun t1 => if (!t1) = true then (some a0) else ((spec_l3Flip.f k  a0).bind fun t2 => some t2)
noncomputable def spec_Flip.e (k : Nat) : FE := { α := S4 × Unit, β := S4, args := (lCons aS4 lNil), ret := (rOne aS4), f := fun p => spec_Flip.f k p.1 }
noncomputable def spec_Flip.c (k : Nat) : List (Nat × CE) := [(67, .fn (spec_PlaneOk.e k)), (164, .fn (spec_l3Flip.e k))]
noncomputable def spec_Flip.bd : Code := match Try.f150.body with | some c => c | none => .skip
noncomputable def spec_Flip.g (k : Nat) : List (Nat × LE) := []
theorem spec_Flip.link (k : Nat) (a0 : S4) : evFun (mkCx Try.prog (spec_Flip.c k) (spec_Flip.g k) : Cx S4) Try.f150 ((spec_Flip.e k).args.enc (a0, ())) (spec_Flip.e k).ret.dec = spec_Flip.f k a0 := by kernel_rfl
theorem spec_Flip.ok1 (k : Nat) (hC : AllFun Try.prog (spec_Flip.c k)) : Fun Try.prog 150 (spec_Flip.e k).G := fun_ok mixed (body := spec_Flip.bd) Try.func150 (by kernel_rfl) (by kernel_rfl) (by kernel_rfl) hC (loops_all 0 (by kernel_rfl) fun i hi => absurd hi (Nat.not_lt_zero i)) (spec_Flip.e k) (fun a => Nat.le_of_ble_eq_true (by kernel_rfl)) fun a b h => (spec_Flip.link k a.1).trans h
theorem spec_Flip.ok (k : Nat) : Fun Try.prog 150 (spec_Flip.e k).G := spec_Flip.ok1 k ⟨spec_PlaneOk.ok k, spec_l3Flip.ok k, trivial⟩

noncomputable def spec_Splits.f (k : Nat) (a0 : List S4) (a1 : S4) : Option Bool :=
  (spec_OpenWith.f k  a0 a1).bind fun t1 => if t1 = true then ((spec_Flip.f k  a1).bind fun t2 => (spec_OpenWith.f k  a0 t2).bind fun t3 => some t3) else (some false)
noncomputable def spec_Splits.e (k : Nat) : FE := { α := (List S4) × S4 × Unit, β := Bool, args := (lCons (aSl .s4) (lCons aS4 lNil)), ret := (rOne aB), f := fun p => spec_Splits.f k p.1 p.2.1 }
noncomputable def spec_Splits.c (k : Nat) : List (Nat × CE) := [(149, .fn (spec_OpenWith.e k)), (150, .fn (spec_Flip.e k))]
noncomputable def spec_Splits.bd : Code := match Try.f77.body with | some c => c | none => .skip
noncomputable def spec_Splits.g (k : Nat) : List (Nat × LE) := []
theorem spec_Splits.link (k : Nat) (a0 : List S4) (a1 : S4) : evFun (mkCx Try.prog (spec_Splits.c k) (spec_Splits.g k) : Cx Bool) Try.f77 ((spec_Splits.e k).args.enc (a0, a1, ())) (spec_Splits.e k).ret.dec = spec_Splits.f k a0 a1 := by kernel_rfl
theorem spec_Splits.ok1 (k : Nat) (hC : AllFun Try.prog (spec_Splits.c k)) : Fun Try.prog 77 (spec_Splits.e k).G := fun_ok mixed (body := spec_Splits.bd) Try.func77 (by kernel_rfl) (by kernel_rfl) (by kernel_rfl) hC (loops_all 0 (by kernel_rfl) fun i hi => absurd hi (Nat.not_lt_zero i)) (spec_Splits.e k) (fun a => Nat.le_of_ble_eq_true (by kernel_rfl)) fun a b h => (spec_Splits.link k a.1 a.2.1).trans h
theorem spec_Splits.ok (k : Nat) : Fun Try.prog 77 (spec_Splits.e k).G := spec_Splits.ok1 k ⟨spec_OpenWith.ok k, spec_Flip.ok k, trivial⟩

noncomputable def spec_SpotOf.H7 : Hd := ⟨[], [3, 8, 10, 11, 12, 13], [8, 11], []⟩
@[reducible] def spec_SpotOf.A7 : Type := ((Int × Unit × (List Nm) × Unit × Unit × Int × Unit) × (S4 × Nm × (List Int) × Unit))
noncomputable def spec_SpotOf.Z7 : SC spec_SpotOf.A7 := sC spec_SpotOf.H7 (eCons 3 (tP (aI .i64)) (eCons 8 (tRef 8 0) (eCons 10 (tP (aSl .num)) (eCons 11 (tRef 11 0) (eCons 12 (tOsl 1000012) (eCons 13 (tP (aI .i64)) eNil)))))) (bCons 8 (xVr cS4) (bCons 11 (xVr cNum) (bCons 1000012 (xRow 3 (.i .i64)) bNil)))
@[reducible] def spec_SpotOf.B7 : Type := ((Unit × Bool × Unit) × (S4 × Unit)) ⊕ ((Unit × Unit × Unit) × (S4 × (List Int) × Unit))
noncomputable def spec_SpotOf.X7 : XC spec_SpotOf.B7 := xOr (xRet (sC ⟨[], [8, 9], [8], []⟩ (eCons 8 (tRef 8 0) (eCons 9 (tP aB) eNil)) (bCons 8 (xVr cS4) bNil))) (xExit 0 (sC ⟨[], [8, 12], [8], []⟩ (eCons 8 (tRef 8 0) (eCons 12 (tOsl 1000012) eNil)) (bCons 8 (xVr cS4) (bCons 1000012 (xRow 3 (.i .i64)) bNil))))
noncomputable def spec_SpotOf.s7 (k : Nat)  (J : Int → (List Nm) → Int → S4 → Nm → (List Int) → Option spec_SpotOf.B7) (x3 : Int) (x10 : List Nm) (x13 : Int) (b8 : S4) (b11 : Nm) (b1000012 : List Int) : Option spec_SpotOf.B7 :=
  if (decide (x13 < 4)) = true then (if 0 ≤ x13 then (if x13 < (x10.length : Int) then ((spec_l1DivMag.f k  ((rd x10 x13).d) b11.d).bind fun t6 => if 0 ≤ x13 then (if x13 < (x10.length : Int) then ((spec_l1Num.f k  (!((rd x10 x13).neg == (decide (x3 < 0)))) t6.1).bind fun t7 => (spec_Small.f k  t7).bind fun t8 => if (!t8.2.1) = true then (some (.inl (((), false, ()), ((⟨0, 0, 0, 0⟩ : S4), ())))) else ((spec_l1In.f k  t8.1 (-1000000000) 1000000000).bind fun t9 => if (!t9) = true then (some (.inl (((), false, ()), ((⟨0, 0, 0, 0⟩ : S4), ())))) else (if lt47 (b1000012.length + ([t8.1] : List Int).length) = true then (J x3 x10 (W (x13 + 1)) b8 b11 (b1000012 ++ ([t8.1] : List Int))) else none))) else none) else none) else none) else none) else (some (.inr (((), (), ()), (b8, b1000012, ()))))
noncomputable def spec_SpotOf.l7 (k : Nat)  : Nat → Int → (List Nm) → Int → S4 → Nm → (List Int) → Option spec_SpotOf.B7
  | 0, _, _, _, _, _, _ => none
  | n + 1, x3, x10, x13, b8, b11, b1000012 => spec_SpotOf.s7 k (spec_SpotOf.l7 k n) x3 x10 x13 b8 b11 b1000012
noncomputable def spec_SpotOf.f (k : Nat) (a0 : Int) (a1 : Int) (a2 : Int) (a3 : Int) : Option (S4 × Bool × Unit) :=
  if (a3 == 0) = true then (some ((⟨0, 0, 0, 0⟩ : S4), false, ())) else ((spec_Of.f k  a0).bind fun t1 => (spec_Of.f k  a1).bind fun t2 => (spec_Of.f k  a2).bind fun t3 => (spec_Of.f k  a3).bind fun t4 => (spec_l3NumGcd.f k  ([t1, t2, t3, t4] : List Nm)).bind fun t5 => (spec_SpotOf.l7 k k a3 ([t1, t2, t3, t4] : List Nm) 0 (⟨0, 0, 0, 0⟩ : S4) t5 ([] : List Int)).bind fun | .inl r10 => (some (r10.2.1, r10.1.2.1, ())) | .inr x11 => (if 0 ≤ 0 then (if 0 < (x11.2.2.1.length : Int) then (if (0 : Int).toNat < x11.2.2.1.length then (if 0 ≤ 1 then (if 1 < (x11.2.2.1.length : Int) then (if (1 : Int).toNat < x11.2.2.1.length then (if 0 ≤ 2 then (if 2 < (x11.2.2.1.length : Int) then (if (2 : Int).toNat < x11.2.2.1.length then (if 0 ≤ 3 then (if 3 < (x11.2.2.1.length : Int) then (if (3 : Int).toNat < x11.2.2.1.length then (some ((⟨(x11.2.2.1.getD ((0 : Int).toNat) default), (x11.2.2.1.getD ((1 : Int).toNat) default), (x11.2.2.1.getD ((2 : Int).toNat) default), (x11.2.2.1.getD ((3 : Int).toNat) default)⟩ : S4), true, ())) else none) else none) else none) else none) else none) else none) else none) else none) else none) else none) else none) else none))
noncomputable def spec_SpotOf.e (k : Nat) : FE := { α := Int × Int × Int × Int × Unit, β := (S4 × Bool × Unit), args := (lCons (aI .i64) (lCons (aI .i64) (lCons (aI .i64) (lCons (aI .i64) lNil)))), ret := (rMany (lCons aS4 (lCons aB lNil))), f := fun p => spec_SpotOf.f k p.1 p.2.1 p.2.2.1 p.2.2.2.1 }
noncomputable def spec_SpotOf.c (k : Nat) : List (Nat × CE) := [(151, .fn (spec_Of.e k)), (152, .fn (spec_l3NumGcd.e k)), (153, .fn (spec_l1DivMag.e k)), (155, .fn (spec_l1Num.e k)), (154, .fn (spec_Small.e k)), (156, .fn (spec_l1In.e k))]
noncomputable def spec_SpotOf.bd : Code := match Try.f79.body with | some c => c | none => .skip
noncomputable def spec_SpotOf.e7 (k : Nat) : LE := { H := spec_SpotOf.H7, α := spec_SpotOf.A7, β := spec_SpotOf.B7, st := spec_SpotOf.Z7, xt := spec_SpotOf.X7, f := fun p => spec_SpotOf.l7 k k p.1.1 p.1.2.2.1 p.1.2.2.2.2.2.1 p.2.1 p.2.2.1 p.2.2.2.1 }
noncomputable def spec_SpotOf.g (k : Nat) : List (Nat × LE) := [(7, spec_SpotOf.e7 k)]
theorem spec_SpotOf.t7 (k : Nat) (I : S2 → Option spec_SpotOf.B7) (x3 : Int) (x10 : List Nm) (x13 : Int) (b8 : S4) (b11 : Nm) (b1000012 : List Int) : stepOf (mkCx Try.prog (spec_SpotOf.c k) (spec_SpotOf.g k) : Cx spec_SpotOf.B7) (loopAt spec_SpotOf.bd 0) spec_SpotOf.H7 spec_SpotOf.X7.dec I (spec_SpotOf.Z7.enc ((x3, (), x10, (), (), x13, ()), (b8, b11, b1000012, ()))) = spec_SpotOf.s7 k (fun x3 x10 x13 b8 b11 b1000012 => I (spec_SpotOf.Z7.enc ((x3, (), x10, (), (), x13, ()), (b8, b11, b1000012, ())))) x3 x10 x13 b8 b11 b1000012 := by kernel_rfl
theorem spec_SpotOf.i7 (k : Nat) : ∀ (n : Nat) (x3 : Int) (x10 : List Nm) (x13 : Int) (b8 : S4) (b11 : Nm) (b1000012 : List Int), iter (evCode (mkCx Try.prog (spec_SpotOf.c k) (spec_SpotOf.g k) : Cx spec_SpotOf.B7) (loopAt spec_SpotOf.bd 0)) spec_SpotOf.H7 spec_SpotOf.X7.dec n (spec_SpotOf.Z7.enc ((x3, (), x10, (), (), x13, ()), (b8, b11, b1000012, ()))) = spec_SpotOf.l7 k n x3 x10 x13 b8 b11 b1000012
  | 0, _, _, _, _, _, _ => rfl
  | n + 1, x3, x10, x13, b8, b11, b1000012 => ((iter_step _ _ _ _ n _).trans (spec_SpotOf.t7 k _ x3 x10 x13 b8 b11 b1000012)).trans (congrArg (fun J => spec_SpotOf.s7 k J x3 x10 x13 b8 b11 b1000012) (funext fun x3 => funext fun x10 => funext fun x13 => funext fun b8 => funext fun b11 => funext fun b1000012 => spec_SpotOf.i7 k n x3 x10 x13 b8 b11 b1000012))
theorem spec_SpotOf.to7 (k : Nat) (hC : AllFun Try.prog (spec_SpotOf.c k)) : LoopTo Try.prog 87 (spec_SpotOf.e7 k) (loopAt spec_SpotOf.bd 0) := loop_to mixed hC (by kernel_rfl) (loops_all 0 (by kernel_rfl) fun i hi => absurd hi (Nat.not_lt_zero i)) fun a b h => ⟨k, (spec_SpotOf.i7 k k a.1.1 a.1.2.2.1 a.1.2.2.2.2.2.1 a.2.1 a.2.2.1 a.2.2.2.1).trans h⟩
theorem spec_SpotOf.link (k : Nat) (a0 : Int) (a1 : Int) (a2 : Int) (a3 : Int) : evFun (mkCx Try.prog (spec_SpotOf.c k) (spec_SpotOf.g k) : Cx (S4 × Bool × Unit)) Try.f79 ((spec_SpotOf.e k).args.enc (a0, a1, a2, a3, ())) (spec_SpotOf.e k).ret.dec = spec_SpotOf.f k a0 a1 a2 a3 := by kernel_rfl
theorem spec_SpotOf.ok1 (k : Nat) (hC : AllFun Try.prog (spec_SpotOf.c k)) : Fun Try.prog 79 (spec_SpotOf.e k).G := fun_ok mixed (body := spec_SpotOf.bd) Try.func79 (by kernel_rfl) (by kernel_rfl) (by kernel_rfl) hC (loops_all 1 (by kernel_rfl) fun i hi => by obtain rfl : i = 0 := Nat.lt_one_iff.1 hi; exact ⟨spec_SpotOf.e7 k, by kernel_rfl, spec_SpotOf.to7 k hC⟩) (spec_SpotOf.e k) (fun a => Nat.le_of_ble_eq_true (by kernel_rfl)) fun a b h => (spec_SpotOf.link k a.1 a.2.1 a.2.2.1 a.2.2.2.1).trans h
theorem spec_SpotOf.ok (k : Nat) : Fun Try.prog 79 (spec_SpotOf.e k).G := spec_SpotOf.ok1 k ⟨spec_Of.ok k, spec_l3NumGcd.ok k, spec_l1DivMag.ok k, spec_l1Num.ok k, spec_Small.ok k, spec_l1In.ok k, trivial⟩

noncomputable def spec_SpotOk.f (k : Nat) (a0 : S4) : Option Bool :=
  (spec_l1In.f k  a0.d 1 1000000000).bind fun t1 => if t1 = true then ((spec_l1In.f k  a0.a (-1000000000) 1000000000).bind fun t2 => if t2 = true then ((spec_l1In.f k  a0.b (-1000000000) 1000000000).bind fun t3 => if t3 = true then ((spec_l1In.f k  a0.c (-1000000000) 1000000000).bind fun t4 => if t4 = true then ((spec_l3Gcd.f k  a0.a a0.b).bind fun t5 => (spec_l3Gcd.f k  a0.c a0.d).bind fun t6 => (spec_l3Gcd.f k  t5 t6).bind fun t7 => some (t7 == 1)) else (some false)) else (some false)) else (some false)) else (some false)
noncomputable def spec_SpotOk.e (k : Nat) : FE := { α := S4 × Unit, β := Bool, args := (lCons aS4 lNil), ret := (rOne aB), f := fun p => spec_SpotOk.f k p.1 }
noncomputable def spec_SpotOk.c (k : Nat) : List (Nat × CE) := [(156, .fn (spec_l1In.e k)), (139, .fn (spec_l3Gcd.e k))]
noncomputable def spec_SpotOk.bd : Code := match Try.f157.body with | some c => c | none => .skip
noncomputable def spec_SpotOk.g (k : Nat) : List (Nat × LE) := []
theorem spec_SpotOk.link (k : Nat) (a0 : S4) : evFun (mkCx Try.prog (spec_SpotOk.c k) (spec_SpotOk.g k) : Cx Bool) Try.f157 ((spec_SpotOk.e k).args.enc (a0, ())) (spec_SpotOk.e k).ret.dec = spec_SpotOk.f k a0 := by kernel_rfl
theorem spec_SpotOk.ok1 (k : Nat) (hC : AllFun Try.prog (spec_SpotOk.c k)) : Fun Try.prog 157 (spec_SpotOk.e k).G := fun_ok mixed (body := spec_SpotOk.bd) Try.func157 (by kernel_rfl) (by kernel_rfl) (by kernel_rfl) hC (loops_all 0 (by kernel_rfl) fun i hi => absurd hi (Nat.not_lt_zero i)) (spec_SpotOk.e k) (fun a => Nat.le_of_ble_eq_true (by kernel_rfl)) fun a b h => (spec_SpotOk.link k a.1).trans h
theorem spec_SpotOk.ok (k : Nat) : Fun Try.prog 157 (spec_SpotOk.e k).G := spec_SpotOk.ok1 k ⟨spec_l1In.ok k, spec_l3Gcd.ok k, trivial⟩

noncomputable def spec_l5Side.f (k : Nat) (a0 : S4) (a1 : S4) : Option Int :=
  (spec_l3Sign.f k  (W ((W ((W ((W (a0.a * a1.a)) + (W (a0.b * a1.b)))) + (W (a0.c * a1.c)))) + (W (a0.d * a1.d))))).bind fun t1 => some t1
noncomputable def spec_l5Side.e (k : Nat) : FE := { α := S4 × S4 × Unit, β := Int, args := (lCons aS4 (lCons aS4 lNil)), ret := (rOne (aI .i64)), f := fun p => spec_l5Side.f k p.1 p.2.1 }
noncomputable def spec_l5Side.c (k : Nat) : List (Nat × CE) := [(204, .fn (spec_l3Sign.e k))]
noncomputable def spec_l5Side.bd : Code := match Try.f158.body with | some c => c | none => .skip
noncomputable def spec_l5Side.g (k : Nat) : List (Nat × LE) := []
theorem spec_l5Side.link (k : Nat) (a0 : S4) (a1 : S4) : evFun (mkCx Try.prog (spec_l5Side.c k) (spec_l5Side.g k) : Cx Int) Try.f158 ((spec_l5Side.e k).args.enc (a0, a1, ())) (spec_l5Side.e k).ret.dec = spec_l5Side.f k a0 a1 := by kernel_rfl
theorem spec_l5Side.ok1 (k : Nat) (hC : AllFun Try.prog (spec_l5Side.c k)) : Fun Try.prog 158 (spec_l5Side.e k).G := fun_ok mixed (body := spec_l5Side.bd) Try.func158 (by kernel_rfl) (by kernel_rfl) (by kernel_rfl) hC (loops_all 0 (by kernel_rfl) fun i hi => absurd hi (Nat.not_lt_zero i)) (spec_l5Side.e k) (fun a => Nat.le_of_ble_eq_true (by kernel_rfl)) fun a b h => (spec_l5Side.link k a.1 a.2.1).trans h
theorem spec_l5Side.ok (k : Nat) : Fun Try.prog 158 (spec_l5Side.e k).G := spec_l5Side.ok1 k ⟨spec_l3Sign.ok k, trivial⟩

noncomputable def spec_SideAt.f (k : Nat) (a0 : S4) (a1 : S4) : Option Int :=
  (spec_PlaneOk.f k  a0).bind fun t1 => if (!t1) = true then (some 0) else ((spec_SpotOk.f k  a1).bind fun t2 => if (!t2) = true then (some 0) else ((spec_l5Side.f k  a0 a1).bind fun t3 => some t3))
noncomputable def spec_SideAt.e (k : Nat) : FE := { α := S4 × S4 × Unit, β := Int, args := (lCons aS4 (lCons aS4 lNil)), ret := (rOne (aI .i64)), f := fun p => spec_SideAt.f k p.1 p.2.1 }
noncomputable def spec_SideAt.c (k : Nat) : List (Nat × CE) := [(67, .fn (spec_PlaneOk.e k)), (157, .fn (spec_SpotOk.e k)), (158, .fn (spec_l5Side.e k))]
noncomputable def spec_SideAt.bd : Code := match Try.f80.body with | some c => c | none => .skip
noncomputable def spec_SideAt.g (k : Nat) : List (Nat × LE) := []
theorem spec_SideAt.link (k : Nat) (a0 : S4) (a1 : S4) : evFun (mkCx Try.prog (spec_SideAt.c k) (spec_SideAt.g k) : Cx Int) Try.f80 ((spec_SideAt.e k).args.enc (a0, a1, ())) (spec_SideAt.e k).ret.dec = spec_SideAt.f k a0 a1 := by kernel_rfl
theorem spec_SideAt.ok1 (k : Nat) (hC : AllFun Try.prog (spec_SideAt.c k)) : Fun Try.prog 80 (spec_SideAt.e k).G := fun_ok mixed (body := spec_SideAt.bd) Try.func80 (by kernel_rfl) (by kernel_rfl) (by kernel_rfl) hC (loops_all 0 (by kernel_rfl) fun i hi => absurd hi (Nat.not_lt_zero i)) (spec_SideAt.e k) (fun a => Nat.le_of_ble_eq_true (by kernel_rfl)) fun a b h => (spec_SideAt.link k a.1 a.2.1).trans h
theorem spec_SideAt.ok (k : Nat) : Fun Try.prog 80 (spec_SideAt.e k).G := spec_SideAt.ok1 k ⟨spec_PlaneOk.ok k, spec_SpotOk.ok k, spec_l5Side.ok k, trivial⟩

end Go.Proofs.Ytlkcpldohlemcaa.G
