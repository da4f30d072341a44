/- Go functions told as plain Lean functions; that the code does what these tell. Printed by a program of the session (evp.py). -/
import Derived.Test.YtfgaeenlnkioaaaEv16
import Derived.Test.YtfgaeenlnkioaaaG2
namespace Go.Proofs.Ytfgaeenlnkioaaa.G
open Go Go.RowKit Go.Proofs Go.Proofs.Ytfgaeenlnkioaaa.Ev
set_option linter.unusedVariables false
set_option maxRecDepth 100000

noncomputable def impl_room.H12 : Hd := ⟨[], [0, 3, 6, 8, 11, 12, 13, 23, 24, 25, 36, 37, 38], [3, 6, 8]⟩
@[reducible] def impl_room.A12 : Type := (((List S4) × Unit × Unit × Unit × (List S4) × Int × Int × (List S4) × Int × Int × (List S4) × Int × Int × Unit) × (S4 × S4 × S4 × Unit))
noncomputable def impl_room.Z12 : SC impl_room.A12 := sC impl_room.H12 (eCons 0 (tP (aSl .s4)) (eCons 3 (tRef 3 0) (eCons 6 (tRef 6 0) (eCons 8 (tRef 8 0) (eCons 11 (tP (aSl .s4)) (eCons 12 (tP (aI .i64)) (eCons 13 (tP (aI .i64)) (eCons 23 (tP (aSl .s4)) (eCons 24 (tP (aI .i64)) (eCons 25 (tP (aI .i64)) (eCons 36 (tP (aSl .s4)) (eCons 37 (tP (aI .i64)) (eCons 38 (tP (aI .i64)) eNil))))))))))))) (bCons 3 (xVr cS4) (bCons 6 (xVr cS4) (bCons 8 (xVr cS4) bNil)))
@[reducible] def impl_room.B12 : Type := ((Bool × Unit) × (Unit)) ⊕ (((List S4) × Unit × Unit × (List S4) × Int × Int × (List S4) × Int × Int × Unit) × (S4 × S4 × Unit))
noncomputable def impl_room.X12 : XC impl_room.B12 := xOr (xRet (sC ⟨[], [4], []⟩ (eCons 4 (tP aB) eNil) bNil)) (xExit 4 (sC ⟨[], [0, 3, 6, 11, 12, 13, 23, 24, 25], [3, 6]⟩ (eCons 0 (tP (aSl .s4)) (eCons 3 (tRef 3 0) (eCons 6 (tRef 6 0) (eCons 11 (tP (aSl .s4)) (eCons 12 (tP (aI .i64)) (eCons 13 (tP (aI .i64)) (eCons 23 (tP (aSl .s4)) (eCons 24 (tP (aI .i64)) (eCons 25 (tP (aI .i64)) eNil))))))))) (bCons 3 (xVr cS4) (bCons 6 (xVr cS4) bNil))))
noncomputable def impl_room.s12 (k : Nat)  (J : (List S4) → (List S4) → Int → Int → (List S4) → Int → Int → (List S4) → Int → Int → S4 → S4 → S4 → Option impl_room.B12) (x0 : List S4) (x11 : List S4) (x12 : Int) (x13 : Int) (x23 : List S4) (x24 : Int) (x25 : Int) (x36 : List S4) (x37 : Int) (x38 : Int) (b3 : S4) (b6 : S4) (b8 : S4) : Option impl_room.B12 :=
  if (decide (x38 < x37)) = true then (if 0 ≤ x38 then (if x38 < (x36.length : Int) then ((impl_clash4.f k  (rd x36 x38) b8 b6 b3).bind fun t3 => if t3 = true then (some (.inl ((false, ()), (())))) else (J x0 x11 x12 x13 x23 x24 x25 x36 x37 (W (x38 + 1)) b3 b6 b8)) else none) else none) else (some (.inr ((x0, (), (), x11, x12, x13, x23, x24, x25, ()), (b3, b6, ()))))
noncomputable def impl_room.l12 (k : Nat)  : Nat → (List S4) → (List S4) → Int → Int → (List S4) → Int → Int → (List S4) → Int → Int → S4 → S4 → S4 → Option impl_room.B12
  | 0, _, _, _, _, _, _, _, _, _, _, _, _, _ => none
  | n + 1, x0, x11, x12, x13, x23, x24, x25, x36, x37, x38, b3, b6, b8 => impl_room.s12 k (impl_room.l12 k n) x0 x11 x12 x13 x23 x24 x25 x36 x37 x38 b3 b6 b8
noncomputable def impl_room.H7 : Hd := ⟨[], [0, 3, 6, 11, 12, 13, 23, 24, 25], [3, 6]⟩
@[reducible] def impl_room.A7 : Type := (((List S4) × Unit × Unit × (List S4) × Int × Int × (List S4) × Int × Int × Unit) × (S4 × S4 × Unit))
noncomputable def impl_room.Z7 : SC impl_room.A7 := sC impl_room.H7 (eCons 0 (tP (aSl .s4)) (eCons 3 (tRef 3 0) (eCons 6 (tRef 6 0) (eCons 11 (tP (aSl .s4)) (eCons 12 (tP (aI .i64)) (eCons 13 (tP (aI .i64)) (eCons 23 (tP (aSl .s4)) (eCons 24 (tP (aI .i64)) (eCons 25 (tP (aI .i64)) eNil))))))))) (bCons 3 (xVr cS4) (bCons 6 (xVr cS4) bNil))
@[reducible] def impl_room.B7 : Type := ((Bool × Unit) × (Unit)) ⊕ (((List S4) × Unit × (List S4) × Int × Int × Unit) × (S4 × Unit))
noncomputable def impl_room.X7 : XC impl_room.B7 := xOr (xRet (sC ⟨[], [4], []⟩ (eCons 4 (tP aB) eNil) bNil)) (xExit 2 (sC ⟨[], [0, 3, 11, 12, 13], [3]⟩ (eCons 0 (tP (aSl .s4)) (eCons 3 (tRef 3 0) (eCons 11 (tP (aSl .s4)) (eCons 12 (tP (aI .i64)) (eCons 13 (tP (aI .i64)) eNil))))) (bCons 3 (xVr cS4) bNil)))
noncomputable def impl_room.s7 (k : Nat)  (J : (List S4) → (List S4) → Int → Int → (List S4) → Int → Int → S4 → S4 → Option impl_room.B7) (x0 : List S4) (x11 : List S4) (x12 : Int) (x13 : Int) (x23 : List S4) (x24 : Int) (x25 : Int) (b3 : S4) (b6 : S4) : Option impl_room.B7 :=
  if (decide (x25 < x24)) = true then (if 0 ≤ x25 then (if x25 < (x23.length : Int) then ((impl_clash3.f k  (rd x23 x25) b6 b3).bind fun t2 => if t2 = true then (some (.inl ((false, ()), (())))) else (if 0 ≤ x25 then (if x25 ≤ (x0.length : Int) then ((impl_room.l12 k k x0 x11 x12 x13 x23 x24 x25 (x0.take x25.toNat) ((x0.take x25.toNat).length : Int) 0 b3 b6 (rd x23 x25)).bind fun | .inl r4 => (some (.inl ((r4.1.1, ()), (())))) | .inr x5 => (J x5.1.1 x5.1.2.2.2.1 x5.1.2.2.2.2.1 x5.1.2.2.2.2.2.1 x5.1.2.2.2.2.2.2.1 x5.1.2.2.2.2.2.2.2.1 (W (x5.1.2.2.2.2.2.2.2.2.1 + 1)) x5.2.1 x5.2.2.1)) else none) else none)) else none) else none) else (some (.inr ((x0, (), x11, x12, x13, ()), (b3, ()))))
noncomputable def impl_room.l7 (k : Nat)  : Nat → (List S4) → (List S4) → Int → Int → (List S4) → Int → Int → S4 → S4 → Option impl_room.B7
  | 0, _, _, _, _, _, _, _, _, _ => none
  | n + 1, x0, x11, x12, x13, x23, x24, x25, b3, b6 => impl_room.s7 k (impl_room.l7 k n) x0 x11 x12 x13 x23 x24 x25 b3 b6
noncomputable def impl_room.H2 : Hd := ⟨[], [0, 3, 11, 12, 13], [3]⟩
@[reducible] def impl_room.A2 : Type := (((List S4) × Unit × (List S4) × Int × Int × Unit) × (S4 × Unit))
noncomputable def impl_room.Z2 : SC impl_room.A2 := sC impl_room.H2 (eCons 0 (tP (aSl .s4)) (eCons 3 (tRef 3 0) (eCons 11 (tP (aSl .s4)) (eCons 12 (tP (aI .i64)) (eCons 13 (tP (aI .i64)) eNil))))) (bCons 3 (xVr cS4) bNil)
@[reducible] def impl_room.B2 : Type := ((Bool × Unit) × (Unit)) ⊕ ((Unit) × (Unit))
noncomputable def impl_room.X2 : XC impl_room.B2 := xOr (xRet (sC ⟨[], [4], []⟩ (eCons 4 (tP aB) eNil) bNil)) (xExit 0 (sC ⟨[], [], []⟩ eNil bNil))
noncomputable def impl_room.s2 (k : Nat)  (J : (List S4) → (List S4) → Int → Int → S4 → Option impl_room.B2) (x0 : List S4) (x11 : List S4) (x12 : Int) (x13 : Int) (b3 : S4) : Option impl_room.B2 :=
  if (decide (x13 < x12)) = true then (if 0 ≤ x13 then (if x13 < (x11.length : Int) then ((impl_clash2.f k  (rd x11 x13) b3).bind fun t1 => if t1 = true then (some (.inl ((false, ()), (())))) else (if 0 ≤ x13 then (if x13 ≤ (x0.length : Int) then ((impl_room.l7 k k x0 x11 x12 x13 (x0.take x13.toNat) ((x0.take x13.toNat).length : Int) 0 b3 (rd x11 x13)).bind fun | .inl r6 => (some (.inl ((r6.1.1, ()), (())))) | .inr x7 => (J x7.1.1 x7.1.2.2.1 x7.1.2.2.2.1 (W (x7.1.2.2.2.2.1 + 1)) x7.2.1)) else none) else none)) else none) else none) else (some (.inr ((()), (()))))
noncomputable def impl_room.l2 (k : Nat)  : Nat → (List S4) → (List S4) → Int → Int → S4 → Option impl_room.B2
  | 0, _, _, _, _, _ => none
  | n + 1, x0, x11, x12, x13, b3 => impl_room.s2 k (impl_room.l2 k n) x0 x11 x12 x13 b3
noncomputable def impl_room.f (k : Nat) (a0 : List S4) (a1 : S4) : Option Bool :=
  (impl_room.l2 k k a0 a0 (a0.length : Int) 0 a1).bind fun | .inl r8 => (some r8.1.1) | .inr x9 => (some true)
noncomputable def impl_room.e (k : Nat) : FE := { α := (List S4) × S4 × Unit, β := Bool, args := (lCons (aSl .s4) (lCons aS4 lNil)), ret := (rOne aB), f := fun p => impl_room.f k p.1 p.2.1 }
noncomputable def impl_room.c (k : Nat) : List (Nat × CE) := [(109, .fn (impl_clash2.e k)), (110, .fn (impl_clash3.e k)), (111, .fn (impl_clash4.e k))]
noncomputable def impl_room.bd : Code := match Try.f108.body with | some c => c | none => .skip
noncomputable def impl_room.e12 (k : Nat) : LE := { H := impl_room.H12, α := impl_room.A12, β := impl_room.B12, st := impl_room.Z12, xt := impl_room.X12, f := fun p => impl_room.l12 k k p.1.1 p.1.2.2.2.2.1 p.1.2.2.2.2.2.1 p.1.2.2.2.2.2.2.1 p.1.2.2.2.2.2.2.2.1 p.1.2.2.2.2.2.2.2.2.1 p.1.2.2.2.2.2.2.2.2.2.1 p.1.2.2.2.2.2.2.2.2.2.2.1 p.1.2.2.2.2.2.2.2.2.2.2.2.1 p.1.2.2.2.2.2.2.2.2.2.2.2.2.1 p.2.1 p.2.2.1 p.2.2.2.1 }
noncomputable def impl_room.e7 (k : Nat) : LE := { H := impl_room.H7, α := impl_room.A7, β := impl_room.B7, st := impl_room.Z7, xt := impl_room.X7, f := fun p => impl_room.l7 k k p.1.1 p.1.2.2.2.1 p.1.2.2.2.2.1 p.1.2.2.2.2.2.1 p.1.2.2.2.2.2.2.1 p.1.2.2.2.2.2.2.2.1 p.1.2.2.2.2.2.2.2.2.1 p.2.1 p.2.2.1 }
noncomputable def impl_room.e2 (k : Nat) : LE := { H := impl_room.H2, α := impl_room.A2, β := impl_room.B2, st := impl_room.Z2, xt := impl_room.X2, f := fun p => impl_room.l2 k k p.1.1 p.1.2.2.1 p.1.2.2.2.1 p.1.2.2.2.2.1 p.2.1 }
noncomputable def impl_room.g (k : Nat) : List (Nat × LE) := [(12, impl_room.e12 k), (7, impl_room.e7 k), (2, impl_room.e2 k)]
theorem impl_room.t12 (k : Nat) (I : S2 → Option impl_room.B12) (x0 : List S4) (x11 : List S4) (x12 : Int) (x13 : Int) (x23 : List S4) (x24 : Int) (x25 : Int) (x36 : List S4) (x37 : Int) (x38 : Int) (b3 : S4) (b6 : S4) (b8 : S4) : stepOf (mkCx Try.prog (impl_room.c k) (impl_room.g k) : Cx impl_room.B12) (loopAt (loopAt (loopAt impl_room.bd 0) 0) 0) impl_room.H12 impl_room.X12.dec I (impl_room.Z12.enc ((x0, (), (), (), x11, x12, x13, x23, x24, x25, x36, x37, x38, ()), (b3, b6, b8, ()))) = impl_room.s12 k (fun x0 x11 x12 x13 x23 x24 x25 x36 x37 x38 b3 b6 b8 => I (impl_room.Z12.enc ((x0, (), (), (), x11, x12, x13, x23, x24, x25, x36, x37, x38, ()), (b3, b6, b8, ())))) x0 x11 x12 x13 x23 x24 x25 x36 x37 x38 b3 b6 b8 := by kernel_rfl
theorem impl_room.i12 (k : Nat) : ∀ (n : Nat) (x0 : List S4) (x11 : List S4) (x12 : Int) (x13 : Int) (x23 : List S4) (x24 : Int) (x25 : Int) (x36 : List S4) (x37 : Int) (x38 : Int) (b3 : S4) (b6 : S4) (b8 : S4), iter (evCode (mkCx Try.prog (impl_room.c k) (impl_room.g k) : Cx impl_room.B12) (loopAt (loopAt (loopAt impl_room.bd 0) 0) 0)) impl_room.H12 impl_room.X12.dec n (impl_room.Z12.enc ((x0, (), (), (), x11, x12, x13, x23, x24, x25, x36, x37, x38, ()), (b3, b6, b8, ()))) = impl_room.l12 k n x0 x11 x12 x13 x23 x24 x25 x36 x37 x38 b3 b6 b8
  | 0, _, _, _, _, _, _, _, _, _, _, _, _, _ => rfl
  | n + 1, x0, x11, x12, x13, x23, x24, x25, x36, x37, x38, b3, b6, b8 => ((iter_step _ _ _ _ n _).trans (impl_room.t12 k _ x0 x11 x12 x13 x23 x24 x25 x36 x37 x38 b3 b6 b8)).trans (congrArg (fun J => impl_room.s12 k J x0 x11 x12 x13 x23 x24 x25 x36 x37 x38 b3 b6 b8) (funext fun x0 => funext fun x11 => funext fun x12 => funext fun x13 => funext fun x23 => funext fun x24 => funext fun x25 => funext fun x36 => funext fun x37 => funext fun x38 => funext fun b3 => funext fun b6 => funext fun b8 => impl_room.i12 k n x0 x11 x12 x13 x23 x24 x25 x36 x37 x38 b3 b6 b8))
theorem impl_room.t7 (k : Nat) (I : S2 → Option impl_room.B7) (x0 : List S4) (x11 : List S4) (x12 : Int) (x13 : Int) (x23 : List S4) (x24 : Int) (x25 : Int) (b3 : S4) (b6 : S4) : stepOf (mkCx Try.prog (impl_room.c k) (impl_room.g k) : Cx impl_room.B7) (loopAt (loopAt impl_room.bd 0) 0) impl_room.H7 impl_room.X7.dec I (impl_room.Z7.enc ((x0, (), (), x11, x12, x13, x23, x24, x25, ()), (b3, b6, ()))) = impl_room.s7 k (fun x0 x11 x12 x13 x23 x24 x25 b3 b6 => I (impl_room.Z7.enc ((x0, (), (), x11, x12, x13, x23, x24, x25, ()), (b3, b6, ())))) x0 x11 x12 x13 x23 x24 x25 b3 b6 := by kernel_rfl
theorem impl_room.i7 (k : Nat) : ∀ (n : Nat) (x0 : List S4) (x11 : List S4) (x12 : Int) (x13 : Int) (x23 : List S4) (x24 : Int) (x25 : Int) (b3 : S4) (b6 : S4), iter (evCode (mkCx Try.prog (impl_room.c k) (impl_room.g k) : Cx impl_room.B7) (loopAt (loopAt impl_room.bd 0) 0)) impl_room.H7 impl_room.X7.dec n (impl_room.Z7.enc ((x0, (), (), x11, x12, x13, x23, x24, x25, ()), (b3, b6, ()))) = impl_room.l7 k n x0 x11 x12 x13 x23 x24 x25 b3 b6
  | 0, _, _, _, _, _, _, _, _, _ => rfl
  | n + 1, x0, x11, x12, x13, x23, x24, x25, b3, b6 => ((iter_step _ _ _ _ n _).trans (impl_room.t7 k _ x0 x11 x12 x13 x23 x24 x25 b3 b6)).trans (congrArg (fun J => impl_room.s7 k J x0 x11 x12 x13 x23 x24 x25 b3 b6) (funext fun x0 => funext fun x11 => funext fun x12 => funext fun x13 => funext fun x23 => funext fun x24 => funext fun x25 => funext fun b3 => funext fun b6 => impl_room.i7 k n x0 x11 x12 x13 x23 x24 x25 b3 b6))
theorem impl_room.t2 (k : Nat) (I : S2 → Option impl_room.B2) (x0 : List S4) (x11 : List S4) (x12 : Int) (x13 : Int) (b3 : S4) : stepOf (mkCx Try.prog (impl_room.c k) (impl_room.g k) : Cx impl_room.B2) (loopAt impl_room.bd 0) impl_room.H2 impl_room.X2.dec I (impl_room.Z2.enc ((x0, (), x11, x12, x13, ()), (b3, ()))) = impl_room.s2 k (fun x0 x11 x12 x13 b3 => I (impl_room.Z2.enc ((x0, (), x11, x12, x13, ()), (b3, ())))) x0 x11 x12 x13 b3 := by kernel_rfl
theorem impl_room.i2 (k : Nat) : ∀ (n : Nat) (x0 : List S4) (x11 : List S4) (x12 : Int) (x13 : Int) (b3 : S4), iter (evCode (mkCx Try.prog (impl_room.c k) (impl_room.g k) : Cx impl_room.B2) (loopAt impl_room.bd 0)) impl_room.H2 impl_room.X2.dec n (impl_room.Z2.enc ((x0, (), x11, x12, x13, ()), (b3, ()))) = impl_room.l2 k n x0 x11 x12 x13 b3
  | 0, _, _, _, _, _ => rfl
  | n + 1, x0, x11, x12, x13, b3 => ((iter_step _ _ _ _ n _).trans (impl_room.t2 k _ x0 x11 x12 x13 b3)).trans (congrArg (fun J => impl_room.s2 k J x0 x11 x12 x13 b3) (funext fun x0 => funext fun x11 => funext fun x12 => funext fun x13 => funext fun b3 => impl_room.i2 k n x0 x11 x12 x13 b3))
theorem impl_room.to12 (k : Nat) (hC : AllFun Try.prog (impl_room.c k)) : LoopTo Try.prog 50 (impl_room.e12 k) (loopAt (loopAt (loopAt impl_room.bd 0) 0) 0) := loop_to mixed hC (by kernel_rfl) (loops_all 0 (by kernel_rfl) fun i hi => absurd hi (Nat.not_lt_zero i)) fun a b h => ⟨k, (impl_room.i12 k k a.1.1 a.1.2.2.2.2.1 a.1.2.2.2.2.2.1 a.1.2.2.2.2.2.2.1 a.1.2.2.2.2.2.2.2.1 a.1.2.2.2.2.2.2.2.2.1 a.1.2.2.2.2.2.2.2.2.2.1 a.1.2.2.2.2.2.2.2.2.2.2.1 a.1.2.2.2.2.2.2.2.2.2.2.2.1 a.1.2.2.2.2.2.2.2.2.2.2.2.2.1 a.2.1 a.2.2.1 a.2.2.2.1).trans h⟩
theorem impl_room.to7 (k : Nat) (hC : AllFun Try.prog (impl_room.c k)) : LoopTo Try.prog 50 (impl_room.e7 k) (loopAt (loopAt impl_room.bd 0) 0) := loop_to mixed hC (by kernel_rfl) (loops_all 1 (by kernel_rfl) fun i hi => by obtain rfl : i = 0 := Nat.lt_one_iff.1 hi; exact ⟨impl_room.e12 k, by kernel_rfl, impl_room.to12 k hC⟩) fun a b h => ⟨k, (impl_room.i7 k k a.1.1 a.1.2.2.2.1 a.1.2.2.2.2.1 a.1.2.2.2.2.2.1 a.1.2.2.2.2.2.2.1 a.1.2.2.2.2.2.2.2.1 a.1.2.2.2.2.2.2.2.2.1 a.2.1 a.2.2.1).trans h⟩
theorem impl_room.to2 (k : Nat) (hC : AllFun Try.prog (impl_room.c k)) : LoopTo Try.prog 50 (impl_room.e2 k) (loopAt impl_room.bd 0) := loop_to mixed hC (by kernel_rfl) (loops_all 1 (by kernel_rfl) fun i hi => by obtain rfl : i = 0 := Nat.lt_one_iff.1 hi; exact ⟨impl_room.e7 k, by kernel_rfl, impl_room.to7 k hC⟩) fun a b h => ⟨k, (impl_room.i2 k k a.1.1 a.1.2.2.1 a.1.2.2.2.1 a.1.2.2.2.2.1 a.2.1).trans h⟩
theorem impl_room.link (k : Nat) (a0 : List S4) (a1 : S4) : evFun (mkCx Try.prog (impl_room.c k) (impl_room.g k) : Cx Bool) Try.f108 ((impl_room.e k).args.enc (a0, a1, ())) (impl_room.e k).ret.dec = impl_room.f k a0 a1 := by kernel_rfl
theorem impl_room.ok1 (k : Nat) (hC : AllFun Try.prog (impl_room.c k)) : Fun Try.prog 108 (impl_room.e k).G := fun_ok mixed (body := impl_room.bd) Try.func108 (by kernel_rfl) (by kernel_rfl) (by kernel_rfl) hC (loops_all 1 (by kernel_rfl) fun i hi => by obtain rfl : i = 0 := Nat.lt_one_iff.1 hi; exact ⟨impl_room.e2 k, by kernel_rfl, impl_room.to2 k hC⟩) (impl_room.e k) (fun a => Nat.le_of_ble_eq_true (by kernel_rfl)) fun a b h => (impl_room.link k a.1 a.2.1).trans h
theorem impl_room.ok (k : Nat) : Fun Try.prog 108 (impl_room.e k).G := impl_room.ok1 k ⟨impl_clash2.ok k, impl_clash3.ok k, impl_clash4.ok k, trivial⟩

noncomputable def impl_checker_right.fs (k : Nat) (self72 : Int → Tree → (List S4) → Option (Bool × Int)) (a0 : Int) (a1 : Tree) (a2 : List S4) : Option (Bool × Int) :=
  (impl_Solid_isLeaf.f k  (T1 a1)).bind fun t1 => if t1 = true then (some (((a1.p.a == 0) && ((a1.p.b == 0) && ((a1.p.c == 0) && (a1.p.d == 0)))), a0)) else (if a1.inn = true then (some (false, (W (a0 + 1)))) else (if ((a1.kids.length : Int) != 2) = true then (some (false, (W (a0 + 1)))) else (if (decide ((W (a0 + 1)) > 300)) = true then (some (false, (W (a0 + 1)))) else (if (decide ((a2.length : Int) ≥ 24)) = true then (some (false, (W (a0 + 1)))) else ((impl_PlaneOk.f k  a1.p).bind fun t2 => if (!t2) = true then (some (false, (W (a0 + 1)))) else ((impl_flip.f k  a1.p).bind fun t3 => (impl_room.f k  a2 a1.p).bind fun t4 => if (!t4) = true then (some (false, (W (a0 + 1)))) else ((impl_room.f k  a2 t3).bind fun t5 => if (!t5) = true then (some (false, (W (a0 + 1)))) else (if 0 ≤ 0 then (if 0 < (a1.kids.length : Int) then ((impl_with.f k  a2 a1.p).bind fun t6 => (self72  (W (a0 + 1)) (T1 (rd a1.kids 0)) t6).bind fun t7 => if t7.1 = true then (if 0 ≤ 1 then (if 1 < (a1.kids.length : Int) then ((impl_with.f k  a2 t3).bind fun t8 => (self72  t7.2 (T1 (rd a1.kids 1)) t8).bind fun t9 => some (t9.1, t9.2)) else none) else none) else (some (false, t7.2))) else none) else none))))))))
noncomputable def impl_checker_right.f : Nat → Int → Tree → (List S4) → Option (Bool × Int)
  | 0, _, _, _ => none
  | k + 1, a0, a1, a2 => impl_checker_right.fs k (impl_checker_right.f k) a0 a1 a2
theorem impl_checker_right.fS (k : Nat) (a0 : Int) (a1 : Tree) (a2 : List S4) : impl_checker_right.f (k + 1) a0 a1 a2 = impl_checker_right.fs k (impl_checker_right.f k) a0 a1 a2 := by first | rfl | rw [impl_checker_right.f]
noncomputable def impl_checker_right.e (k : Nat) : FS := { σ := Int, α := Tree × (List S4) × Unit, β := Bool, sk := .var, st := (xVr (cOne (aI .i64))), args := (lCons aTree (lCons (aSl .s4) lNil)), ret := (pOne pB), f := fun s p => impl_checker_right.f k s p.1 p.2.1 }
noncomputable def impl_checker_right.c (k : Nat) : List (Nat × CE) := [(106, .fn (impl_Solid_isLeaf.e k)), (60, .fn (impl_PlaneOk.e k)), (107, .fn (impl_flip.e k)), (108, .fn (impl_room.e k)), (95, .fn (impl_with.e k)), (72, .st (impl_checker_right.e k))]
noncomputable def impl_checker_right.bd : Code := match Try.f72.body with | some c => c | none => .skip
noncomputable def impl_checker_right.g (k : Nat) : List (Nat × LE) := []
theorem impl_checker_right.link (k : Nat) (a0 : Int) (a1 : Tree) (a2 : List S4) : evFunS (mkCx Try.prog (impl_checker_right.c k) (impl_checker_right.g k) : Cx (Bool × Int)) Try.f72 (impl_checker_right.e (k + 1)).sk ((impl_checker_right.e (k + 1)).st.enc a0) ((impl_checker_right.e (k + 1)).args.enc (a1, a2, ())) (impl_checker_right.e (k + 1)).fin = impl_checker_right.fs k (impl_checker_right.f k) a0 a1 a2 := by kernel_rfl
theorem impl_checker_right.ok1 (k : Nat) (hC : AllFun Try.prog (impl_checker_right.c k)) : FunS Try.prog 72 (impl_checker_right.e (k + 1)).sk (impl_checker_right.e (k + 1)).H := fun_okS mixed (body := impl_checker_right.bd) Try.func72 (by kernel_rfl) (by kernel_rfl) (by kernel_rfl) hC (loops_all 0 (by kernel_rfl) fun i hi => absurd hi (Nat.not_lt_zero i)) (impl_checker_right.e (k + 1)) (fun a => Nat.le_of_ble_eq_true (by kernel_rfl)) (Nat.le_of_ble_eq_true (by kernel_rfl)) fun s a b h => (impl_checker_right.link k s a.1 a.2.1).trans ((impl_checker_right.fS k s a.1 a.2.1).symm.trans h)
theorem impl_checker_right.ok : ∀ k, FunS Try.prog 72 (impl_checker_right.e k).sk (impl_checker_right.e k).H
  | 0 => funS_zero (by kernel_rfl) fun _ _ => rfl
  | k + 1 => impl_checker_right.ok1 k ⟨impl_Solid_isLeaf.ok k, impl_PlaneOk.ok k, impl_flip.ok k, impl_room.ok k, impl_with.ok k, impl_checker_right.ok k, trivial⟩

noncomputable def impl_SolidOk.f (k : Nat) (a0 : Tree) : Option Bool :=
  (impl_checker_right.f k  0 (T1 a0) ([] : List S4)).bind fun t1 => some t1.1
noncomputable def impl_SolidOk.e (k : Nat) : FE := { α := Tree × Unit, β := Bool, args := (lCons aTree lNil), ret := (rOne aB), f := fun p => impl_SolidOk.f k p.1 }
noncomputable def impl_SolidOk.c (k : Nat) : List (Nat × CE) := [(72, .st (impl_checker_right.e k))]
noncomputable def impl_SolidOk.bd : Code := match Try.f26.body with | some c => c | none => .skip
noncomputable def impl_SolidOk.g (k : Nat) : List (Nat × LE) := []
theorem impl_SolidOk.link (k : Nat) (a0 : Tree) : evFun (mkCx Try.prog (impl_SolidOk.c k) (impl_SolidOk.g k) : Cx Bool) Try.f26 ((impl_SolidOk.e k).args.enc (a0, ())) (impl_SolidOk.e k).ret.dec = impl_SolidOk.f k a0 := by kernel_rfl
theorem impl_SolidOk.ok1 (k : Nat) (hC : AllFun Try.prog (impl_SolidOk.c k)) : Fun Try.prog 26 (impl_SolidOk.e k).G := fun_ok mixed (body := impl_SolidOk.bd) Try.func26 (by kernel_rfl) (by kernel_rfl) (by kernel_rfl) hC (loops_all 0 (by kernel_rfl) fun i hi => absurd hi (Nat.not_lt_zero i)) (impl_SolidOk.e k) (fun a => Nat.le_of_ble_eq_true (by kernel_rfl)) fun a b h => (impl_SolidOk.link k a.1).trans h
theorem impl_SolidOk.ok (k : Nat) : Fun Try.prog 26 (impl_SolidOk.e k).G := impl_SolidOk.ok1 k ⟨impl_checker_right.ok k, trivial⟩

noncomputable def laws_FnExactSolidOk.f (k : Nat) (a0 : Tree) : Option Bool :=
  (laws_szSolid.f k  (T1 a0) 1048576).bind fun t1 => if (decide (t1 < 0)) = true then (some true) else ((laws_toSolid.f k  (T1 a0)).bind fun t2 => (spec_SolidOk.f k  (T1 t2)).bind fun t3 => (laws_toSolid.f k  (T1 a0)).bind fun t4 => (impl_SolidOk.f k  (T1 t4)).bind fun t5 => if (!(t5 == t3)) = true then (some false) else ((laws_toSolid.f k  (T1 a0)).bind fun t6 => (laws_eqSolid.f k  (T1 t4) (T1 t6)).bind fun t7 => if (!t7) = true then (some false) else (some true)))
noncomputable def laws_FnExactSolidOk.e (k : Nat) : FE := { α := Tree × Unit, β := Bool, args := (lCons aTree lNil), ret := (rOne aB), f := fun p => laws_FnExactSolidOk.f k p.1 }
noncomputable def laws_FnExactSolidOk.c (k : Nat) : List (Nat × CE) := [(21, .fn (laws_szSolid.e k)), (23, .fn (laws_toSolid.e k)), (25, .fn (spec_SolidOk.e k)), (26, .fn (impl_SolidOk.e k)), (18, .fn (laws_eqSolid.e k))]
noncomputable def laws_FnExactSolidOk.bd : Code := match Try.f5.body with | some c => c | none => .skip
noncomputable def laws_FnExactSolidOk.g (k : Nat) : List (Nat × LE) := []
theorem laws_FnExactSolidOk.link (k : Nat) (a0 : Tree) : evFun (mkCx Try.prog (laws_FnExactSolidOk.c k) (laws_FnExactSolidOk.g k) : Cx Bool) Try.f5 ((laws_FnExactSolidOk.e k).args.enc (a0, ())) (laws_FnExactSolidOk.e k).ret.dec = laws_FnExactSolidOk.f k a0 := by kernel_rfl
theorem laws_FnExactSolidOk.ok1 (k : Nat) (hC : AllFun Try.prog (laws_FnExactSolidOk.c k)) : Fun Try.prog 5 (laws_FnExactSolidOk.e k).G := fun_ok mixed (body := laws_FnExactSolidOk.bd) Try.func5 (by kernel_rfl) (by kernel_rfl) (by kernel_rfl) hC (loops_all 0 (by kernel_rfl) fun i hi => absurd hi (Nat.not_lt_zero i)) (laws_FnExactSolidOk.e k) (fun a => Nat.le_of_ble_eq_true (by kernel_rfl)) fun a b h => (laws_FnExactSolidOk.link k a.1).trans h
theorem laws_FnExactSolidOk.ok (k : Nat) : Fun Try.prog 5 (laws_FnExactSolidOk.e k).G := laws_FnExactSolidOk.ok1 k ⟨laws_szSolid.ok k, laws_toSolid.ok k, spec_SolidOk.ok k, impl_SolidOk.ok k, laws_eqSolid.ok k, trivial⟩

noncomputable def spec_NodesOf.f (k : Nat) (a0 : Tree) : Option Int :=
  (spec_SolidOk.f k  (T1 a0)).bind fun t1 => if (!t1) = true then (some 0) else ((spec_l8Count.f k  (T1 a0) 301).bind fun t2 => some t2)
noncomputable def spec_NodesOf.e (k : Nat) : FE := { α := Tree × Unit, β := Int, args := (lCons aTree lNil), ret := (rOne (aI .i64)), f := fun p => spec_NodesOf.f k p.1 }
noncomputable def spec_NodesOf.c (k : Nat) : List (Nat × CE) := [(25, .fn (spec_SolidOk.e k)), (70, .fn (spec_l8Count.e k))]
noncomputable def spec_NodesOf.bd : Code := match Try.f27.body with | some c => c | none => .skip
noncomputable def spec_NodesOf.g (k : Nat) : List (Nat × LE) := []
theorem spec_NodesOf.link (k : Nat) (a0 : Tree) : evFun (mkCx Try.prog (spec_NodesOf.c k) (spec_NodesOf.g k) : Cx Int) Try.f27 ((spec_NodesOf.e k).args.enc (a0, ())) (spec_NodesOf.e k).ret.dec = spec_NodesOf.f k a0 := by kernel_rfl
theorem spec_NodesOf.ok1 (k : Nat) (hC : AllFun Try.prog (spec_NodesOf.c k)) : Fun Try.prog 27 (spec_NodesOf.e k).G := fun_ok mixed (body := spec_NodesOf.bd) Try.func27 (by kernel_rfl) (by kernel_rfl) (by kernel_rfl) hC (loops_all 0 (by kernel_rfl) fun i hi => absurd hi (Nat.not_lt_zero i)) (spec_NodesOf.e k) (fun a => Nat.le_of_ble_eq_true (by kernel_rfl)) fun a b h => (spec_NodesOf.link k a.1).trans h
theorem spec_NodesOf.ok (k : Nat) : Fun Try.prog 27 (spec_NodesOf.e k).G := spec_NodesOf.ok1 k ⟨spec_SolidOk.ok k, spec_l8Count.ok k, trivial⟩

noncomputable def impl_Solid_nodes.fs (k : Nat) (self73 : Tree → Option Int) (a0 : Tree) : Option Int :=
  (impl_Solid_isLeaf.f k  (T1 a0)).bind fun t1 => if t1 = true then (some 0) else (if 0 ≤ 0 then (if 0 < (a0.kids.length : Int) then ((self73  (T1 (rd a0.kids 0))).bind fun t2 => if 0 ≤ 1 then (if 1 < (a0.kids.length : Int) then ((self73  (T1 (rd a0.kids 1))).bind fun t3 => some (W ((W (1 + t2)) + t3))) else none) else none) else none) else none)
noncomputable def impl_Solid_nodes.f : Nat → Tree → Option Int
  | 0, _ => none
  | k + 1, a0 => impl_Solid_nodes.fs k (impl_Solid_nodes.f k) a0
theorem impl_Solid_nodes.fS (k : Nat) (a0 : Tree) : impl_Solid_nodes.f (k + 1) a0 = impl_Solid_nodes.fs k (impl_Solid_nodes.f k) a0 := by first | rfl | rw [impl_Solid_nodes.f]
noncomputable def impl_Solid_nodes.e (k : Nat) : FE := { α := Tree × Unit, β := Int, args := (lCons aTreeP lNil), ret := (rOne (aI .i64)), f := fun p => impl_Solid_nodes.f k p.1 }
noncomputable def impl_Solid_nodes.c (k : Nat) : List (Nat × CE) := [(106, .fn (impl_Solid_isLeaf.e k)), (73, .fn (impl_Solid_nodes.e k))]
noncomputable def impl_Solid_nodes.bd : Code := match Try.f73.body with | some c => c | none => .skip
noncomputable def impl_Solid_nodes.g (k : Nat) : List (Nat × LE) := []
theorem impl_Solid_nodes.link (k : Nat) (a0 : Tree) : evFun (mkCx Try.prog (impl_Solid_nodes.c k) (impl_Solid_nodes.g k) : Cx Int) Try.f73 ((impl_Solid_nodes.e (k + 1)).args.enc (a0, ())) (impl_Solid_nodes.e (k + 1)).ret.dec = impl_Solid_nodes.fs k (impl_Solid_nodes.f k) a0 := by kernel_rfl
theorem impl_Solid_nodes.ok1 (k : Nat) (hC : AllFun Try.prog (impl_Solid_nodes.c k)) : Fun Try.prog 73 (impl_Solid_nodes.e (k + 1)).G := fun_ok mixed (body := impl_Solid_nodes.bd) Try.func73 (by kernel_rfl) (by kernel_rfl) (by kernel_rfl) hC (loops_all 0 (by kernel_rfl) fun i hi => absurd hi (Nat.not_lt_zero i)) (impl_Solid_nodes.e (k + 1)) (fun a => Nat.le_of_ble_eq_true (by kernel_rfl)) fun a b h => (impl_Solid_nodes.link k a.1).trans ((impl_Solid_nodes.fS k a.1).symm.trans h)
theorem impl_Solid_nodes.ok : ∀ k, Fun Try.prog 73 (impl_Solid_nodes.e k).G
  | 0 => fun_zero (by kernel_rfl) fun _ => rfl
  | k + 1 => impl_Solid_nodes.ok1 k ⟨impl_Solid_isLeaf.ok k, impl_Solid_nodes.ok k, trivial⟩

noncomputable def impl_NodesOf.f (k : Nat) (a0 : Tree) : Option Int :=
  (impl_SolidOk.f k  (T1 a0)).bind fun t1 => if (!t1) = true then (some 0) else ((impl_Solid_nodes.f k  (T1 a0)).bind fun t2 => some t2)
noncomputable def impl_NodesOf.e (k : Nat) : FE := { α := Tree × Unit, β := Int, args := (lCons aTree lNil), ret := (rOne (aI .i64)), f := fun p => impl_NodesOf.f k p.1 }
noncomputable def impl_NodesOf.c (k : Nat) : List (Nat × CE) := [(26, .fn (impl_SolidOk.e k)), (73, .fn (impl_Solid_nodes.e k))]
noncomputable def impl_NodesOf.bd : Code := match Try.f28.body with | some c => c | none => .skip
noncomputable def impl_NodesOf.g (k : Nat) : List (Nat × LE) := []
theorem impl_NodesOf.link (k : Nat) (a0 : Tree) : evFun (mkCx Try.prog (impl_NodesOf.c k) (impl_NodesOf.g k) : Cx Int) Try.f28 ((impl_NodesOf.e k).args.enc (a0, ())) (impl_NodesOf.e k).ret.dec = impl_NodesOf.f k a0 := by kernel_rfl
theorem impl_NodesOf.ok1 (k : Nat) (hC : AllFun Try.prog (impl_NodesOf.c k)) : Fun Try.prog 28 (impl_NodesOf.e k).G := fun_ok mixed (body := impl_NodesOf.bd) Try.func28 (by kernel_rfl) (by kernel_rfl) (by kernel_rfl) hC (loops_all 0 (by kernel_rfl) fun i hi => absurd hi (Nat.not_lt_zero i)) (impl_NodesOf.e k) (fun a => Nat.le_of_ble_eq_true (by kernel_rfl)) fun a b h => (impl_NodesOf.link k a.1).trans h
theorem impl_NodesOf.ok (k : Nat) : Fun Try.prog 28 (impl_NodesOf.e k).G := impl_NodesOf.ok1 k ⟨impl_SolidOk.ok k, impl_Solid_nodes.ok k, trivial⟩

noncomputable def laws_FnExactNodesOf.f (k : Nat) (a0 : Tree) : Option Bool :=
  (laws_szSolid.f k  (T1 a0) 1048576).bind fun t1 => if (decide (t1 < 0)) = true then (some true) else ((laws_toSolid.f k  (T1 a0)).bind fun t2 => (spec_NodesOf.f k  (T1 t2)).bind fun t3 => (laws_toSolid.f k  (T1 a0)).bind fun t4 => (impl_NodesOf.f k  (T1 t4)).bind fun t5 => if (t5 != t3) = true then (some false) else ((laws_toSolid.f k  (T1 a0)).bind fun t6 => (laws_eqSolid.f k  (T1 t4) (T1 t6)).bind fun t7 => if (!t7) = true then (some false) else (some true)))
noncomputable def laws_FnExactNodesOf.e (k : Nat) : FE := { α := Tree × Unit, β := Bool, args := (lCons aTree lNil), ret := (rOne aB), f := fun p => laws_FnExactNodesOf.f k p.1 }
noncomputable def laws_FnExactNodesOf.c (k : Nat) : List (Nat × CE) := [(21, .fn (laws_szSolid.e k)), (23, .fn (laws_toSolid.e k)), (27, .fn (spec_NodesOf.e k)), (28, .fn (impl_NodesOf.e k)), (18, .fn (laws_eqSolid.e k))]
noncomputable def laws_FnExactNodesOf.bd : Code := match Try.f6.body with | some c => c | none => .skip
noncomputable def laws_FnExactNodesOf.g (k : Nat) : List (Nat × LE) := []
theorem laws_FnExactNodesOf.link (k : Nat) (a0 : Tree) : evFun (mkCx Try.prog (laws_FnExactNodesOf.c k) (laws_FnExactNodesOf.g k) : Cx Bool) Try.f6 ((laws_FnExactNodesOf.e k).args.enc (a0, ())) (laws_FnExactNodesOf.e k).ret.dec = laws_FnExactNodesOf.f k a0 := by kernel_rfl
theorem laws_FnExactNodesOf.ok1 (k : Nat) (hC : AllFun Try.prog (laws_FnExactNodesOf.c k)) : Fun Try.prog 6 (laws_FnExactNodesOf.e k).G := fun_ok mixed (body := laws_FnExactNodesOf.bd) Try.func6 (by kernel_rfl) (by kernel_rfl) (by kernel_rfl) hC (loops_all 0 (by kernel_rfl) fun i hi => absurd hi (Nat.not_lt_zero i)) (laws_FnExactNodesOf.e k) (fun a => Nat.le_of_ble_eq_true (by kernel_rfl)) fun a b h => (laws_FnExactNodesOf.link k a.1).trans h
theorem laws_FnExactNodesOf.ok (k : Nat) : Fun Try.prog 6 (laws_FnExactNodesOf.e k).G := laws_FnExactNodesOf.ok1 k ⟨laws_szSolid.ok k, laws_toSolid.ok k, spec_NodesOf.ok k, impl_NodesOf.ok k, laws_eqSolid.ok k, trivial⟩

noncomputable def spec_l8Depth.fs (k : Nat) (self74 : Tree → Option Int) (a0 : Tree) : Option Int :=
  (spec_l8Leaf.f k  (T1 a0)).bind fun t1 => if t1 = true then (some 0) else (if 0 ≤ 0 then (if 0 < (a0.kids.length : Int) then ((self74  (T1 (rd a0.kids 0))).bind fun t2 => if 0 ≤ 1 then (if 1 < (a0.kids.length : Int) then ((self74  (T1 (rd a0.kids 1))).bind fun t3 => if (decide (t3 > t2)) = true then (some (W (t3 + 1))) else (some (W (t2 + 1)))) else none) else none) else none) else none)
noncomputable def spec_l8Depth.f : Nat → Tree → Option Int
  | 0, _ => none
  | k + 1, a0 => spec_l8Depth.fs k (spec_l8Depth.f k) a0
theorem spec_l8Depth.fS (k : Nat) (a0 : Tree) : spec_l8Depth.f (k + 1) a0 = spec_l8Depth.fs k (spec_l8Depth.f k) a0 := by first | rfl | rw [spec_l8Depth.f]
noncomputable def spec_l8Depth.e (k : Nat) : FE := { α := Tree × Unit, β := Int, args := (lCons aTree lNil), ret := (rOne (aI .i64)), f := fun p => spec_l8Depth.f k p.1 }
noncomputable def spec_l8Depth.c (k : Nat) : List (Nat × CE) := [(103, .fn (spec_l8Leaf.e k)), (74, .fn (spec_l8Depth.e k))]
noncomputable def spec_l8Depth.bd : Code := match Try.f74.body with | some c => c | none => .skip
noncomputable def spec_l8Depth.g (k : Nat) : List (Nat × LE) := []
theorem spec_l8Depth.link (k : Nat) (a0 : Tree) : evFun (mkCx Try.prog (spec_l8Depth.c k) (spec_l8Depth.g k) : Cx Int) Try.f74 ((spec_l8Depth.e (k + 1)).args.enc (a0, ())) (spec_l8Depth.e (k + 1)).ret.dec = spec_l8Depth.fs k (spec_l8Depth.f k) a0 := by kernel_rfl
theorem spec_l8Depth.ok1 (k : Nat) (hC : AllFun Try.prog (spec_l8Depth.c k)) : Fun Try.prog 74 (spec_l8Depth.e (k + 1)).G := fun_ok mixed (body := spec_l8Depth.bd) Try.func74 (by kernel_rfl) (by kernel_rfl) (by kernel_rfl) hC (loops_all 0 (by kernel_rfl) fun i hi => absurd hi (Nat.not_lt_zero i)) (spec_l8Depth.e (k + 1)) (fun a => Nat.le_of_ble_eq_true (by kernel_rfl)) fun a b h => (spec_l8Depth.link k a.1).trans ((spec_l8Depth.fS k a.1).symm.trans h)
theorem spec_l8Depth.ok : ∀ k, Fun Try.prog 74 (spec_l8Depth.e k).G
  | 0 => fun_zero (by kernel_rfl) fun _ => rfl
  | k + 1 => spec_l8Depth.ok1 k ⟨spec_l8Leaf.ok k, spec_l8Depth.ok k, trivial⟩

noncomputable def spec_DepthOf.f (k : Nat) (a0 : Tree) : Option Int :=
  (spec_SolidOk.f k  (T1 a0)).bind fun t1 => if (!t1) = true then (some 0) else ((spec_l8Depth.f k  (T1 a0)).bind fun t2 => some t2)
noncomputable def spec_DepthOf.e (k : Nat) : FE := { α := Tree × Unit, β := Int, args := (lCons aTree lNil), ret := (rOne (aI .i64)), f := fun p => spec_DepthOf.f k p.1 }
noncomputable def spec_DepthOf.c (k : Nat) : List (Nat × CE) := [(25, .fn (spec_SolidOk.e k)), (74, .fn (spec_l8Depth.e k))]
noncomputable def spec_DepthOf.bd : Code := match Try.f29.body with | some c => c | none => .skip
noncomputable def spec_DepthOf.g (k : Nat) : List (Nat × LE) := []
theorem spec_DepthOf.link (k : Nat) (a0 : Tree) : evFun (mkCx Try.prog (spec_DepthOf.c k) (spec_DepthOf.g k) : Cx Int) Try.f29 ((spec_DepthOf.e k).args.enc (a0, ())) (spec_DepthOf.e k).ret.dec = spec_DepthOf.f k a0 := by kernel_rfl
theorem spec_DepthOf.ok1 (k : Nat) (hC : AllFun Try.prog (spec_DepthOf.c k)) : Fun Try.prog 29 (spec_DepthOf.e k).G := fun_ok mixed (body := spec_DepthOf.bd) Try.func29 (by kernel_rfl) (by kernel_rfl) (by kernel_rfl) hC (loops_all 0 (by kernel_rfl) fun i hi => absurd hi (Nat.not_lt_zero i)) (spec_DepthOf.e k) (fun a => Nat.le_of_ble_eq_true (by kernel_rfl)) fun a b h => (spec_DepthOf.link k a.1).trans h
theorem spec_DepthOf.ok (k : Nat) : Fun Try.prog 29 (spec_DepthOf.e k).G := spec_DepthOf.ok1 k ⟨spec_SolidOk.ok k, spec_l8Depth.ok k, trivial⟩

noncomputable def impl_Solid_depth.fs (k : Nat) (self75 : Tree → Option Int) (a0 : Tree) : Option Int :=
  (impl_Solid_isLeaf.f k  (T1 a0)).bind fun t1 => if t1 = true then (some 0) else (if 0 ≤ 0 then (if 0 < (a0.kids.length : Int) then ((self75  (T1 (rd a0.kids 0))).bind fun t2 => if 0 ≤ 1 then (if 1 < (a0.kids.length : Int) then ((self75  (T1 (rd a0.kids 1))).bind fun t3 => some (W (1 + (if t3 > t2 then t3 else t2)))) else none) else none) else none) else none)
noncomputable def impl_Solid_depth.f : Nat → Tree → Option Int
  | 0, _ => none
  | k + 1, a0 => impl_Solid_depth.fs k (impl_Solid_depth.f k) a0
theorem impl_Solid_depth.fS (k : Nat) (a0 : Tree) : impl_Solid_depth.f (k + 1) a0 = impl_Solid_depth.fs k (impl_Solid_depth.f k) a0 := by first | rfl | rw [impl_Solid_depth.f]
noncomputable def impl_Solid_depth.e (k : Nat) : FE := { α := Tree × Unit, β := Int, args := (lCons aTreeP lNil), ret := (rOne (aI .i64)), f := fun p => impl_Solid_depth.f k p.1 }
noncomputable def impl_Solid_depth.c (k : Nat) : List (Nat × CE) := [(106, .fn (impl_Solid_isLeaf.e k)), (75, .fn (impl_Solid_depth.e k))]
noncomputable def impl_Solid_depth.bd : Code := match Try.f75.body with | some c => c | none => .skip
noncomputable def impl_Solid_depth.g (k : Nat) : List (Nat × LE) := []
theorem impl_Solid_depth.link (k : Nat) (a0 : Tree) : evFun (mkCx Try.prog (impl_Solid_depth.c k) (impl_Solid_depth.g k) : Cx Int) Try.f75 ((impl_Solid_depth.e (k + 1)).args.enc (a0, ())) (impl_Solid_depth.e (k + 1)).ret.dec = impl_Solid_depth.fs k (impl_Solid_depth.f k) a0 := by kernel_rfl
theorem impl_Solid_depth.ok1 (k : Nat) (hC : AllFun Try.prog (impl_Solid_depth.c k)) : Fun Try.prog 75 (impl_Solid_depth.e (k + 1)).G := fun_ok mixed (body := impl_Solid_depth.bd) Try.func75 (by kernel_rfl) (by kernel_rfl) (by kernel_rfl) hC (loops_all 0 (by kernel_rfl) fun i hi => absurd hi (Nat.not_lt_zero i)) (impl_Solid_depth.e (k + 1)) (fun a => Nat.le_of_ble_eq_true (by kernel_rfl)) fun a b h => (impl_Solid_depth.link k a.1).trans ((impl_Solid_depth.fS k a.1).symm.trans h)
theorem impl_Solid_depth.ok : ∀ k, Fun Try.prog 75 (impl_Solid_depth.e k).G
  | 0 => fun_zero (by kernel_rfl) fun _ => rfl
  | k + 1 => impl_Solid_depth.ok1 k ⟨impl_Solid_isLeaf.ok k, impl_Solid_depth.ok k, trivial⟩

noncomputable def impl_DepthOf.f (k : Nat) (a0 : Tree) : Option Int :=
  (impl_SolidOk.f k  (T1 a0)).bind fun t1 => if (!t1) = true then (some 0) else ((impl_Solid_depth.f k  (T1 a0)).bind fun t2 => some t2)
noncomputable def impl_DepthOf.e (k : Nat) : FE := { α := Tree × Unit, β := Int, args := (lCons aTree lNil), ret := (rOne (aI .i64)), f := fun p => impl_DepthOf.f k p.1 }
noncomputable def impl_DepthOf.c (k : Nat) : List (Nat × CE) := [(26, .fn (impl_SolidOk.e k)), (75, .fn (impl_Solid_depth.e k))]
noncomputable def impl_DepthOf.bd : Code := match Try.f30.body with | some c => c | none => .skip
noncomputable def impl_DepthOf.g (k : Nat) : List (Nat × LE) := []
theorem impl_DepthOf.link (k : Nat) (a0 : Tree) : evFun (mkCx Try.prog (impl_DepthOf.c k) (impl_DepthOf.g k) : Cx Int) Try.f30 ((impl_DepthOf.e k).args.enc (a0, ())) (impl_DepthOf.e k).ret.dec = impl_DepthOf.f k a0 := by kernel_rfl
theorem impl_DepthOf.ok1 (k : Nat) (hC : AllFun Try.prog (impl_DepthOf.c k)) : Fun Try.prog 30 (impl_DepthOf.e k).G := fun_ok mixed (body := impl_DepthOf.bd) Try.func30 (by kernel_rfl) (by kernel_rfl) (by kernel_rfl) hC (loops_all 0 (by kernel_rfl) fun i hi => absurd hi (Nat.not_lt_zero i)) (impl_DepthOf.e k) (fun a => Nat.le_of_ble_eq_true (by kernel_rfl)) fun a b h => (impl_DepthOf.link k a.1).trans h
theorem impl_DepthOf.ok (k : Nat) : Fun Try.prog 30 (impl_DepthOf.e k).G := impl_DepthOf.ok1 k ⟨impl_SolidOk.ok k, impl_Solid_depth.ok k, trivial⟩

noncomputable def laws_FnExactDepthOf.f (k : Nat) (a0 : Tree) : Option Bool :=
  (laws_szSolid.f k  (T1 a0) 1048576).bind fun t1 => if (decide (t1 < 0)) = true then (some true) else ((laws_toSolid.f k  (T1 a0)).bind fun t2 => (spec_DepthOf.f k  (T1 t2)).bind fun t3 => (laws_toSolid.f k  (T1 a0)).bind fun t4 => (impl_DepthOf.f k  (T1 t4)).bind fun t5 => if (t5 != t3) = true then (some false) else ((laws_toSolid.f k  (T1 a0)).bind fun t6 => (laws_eqSolid.f k  (T1 t4) (T1 t6)).bind fun t7 => if (!t7) = true then (some false) else (some true)))
noncomputable def laws_FnExactDepthOf.e (k : Nat) : FE := { α := Tree × Unit, β := Bool, args := (lCons aTree lNil), ret := (rOne aB), f := fun p => laws_FnExactDepthOf.f k p.1 }
noncomputable def laws_FnExactDepthOf.c (k : Nat) : List (Nat × CE) := [(21, .fn (laws_szSolid.e k)), (23, .fn (laws_toSolid.e k)), (29, .fn (spec_DepthOf.e k)), (30, .fn (impl_DepthOf.e k)), (18, .fn (laws_eqSolid.e k))]
noncomputable def laws_FnExactDepthOf.bd : Code := match Try.f7.body with | some c => c | none => .skip
noncomputable def laws_FnExactDepthOf.g (k : Nat) : List (Nat × LE) := []
theorem laws_FnExactDepthOf.link (k : Nat) (a0 : Tree) : evFun (mkCx Try.prog (laws_FnExactDepthOf.c k) (laws_FnExactDepthOf.g k) : Cx Bool) Try.f7 ((laws_FnExactDepthOf.e k).args.enc (a0, ())) (laws_FnExactDepthOf.e k).ret.dec = laws_FnExactDepthOf.f k a0 := by kernel_rfl
theorem laws_FnExactDepthOf.ok1 (k : Nat) (hC : AllFun Try.prog (laws_FnExactDepthOf.c k)) : Fun Try.prog 7 (laws_FnExactDepthOf.e k).G := fun_ok mixed (body := laws_FnExactDepthOf.bd) Try.func7 (by kernel_rfl) (by kernel_rfl) (by kernel_rfl) hC (loops_all 0 (by kernel_rfl) fun i hi => absurd hi (Nat.not_lt_zero i)) (laws_FnExactDepthOf.e k) (fun a => Nat.le_of_ble_eq_true (by kernel_rfl)) fun a b h => (laws_FnExactDepthOf.link k a.1).trans h
theorem laws_FnExactDepthOf.ok (k : Nat) : Fun Try.prog 7 (laws_FnExactDepthOf.e k).G := laws_FnExactDepthOf.ok1 k ⟨laws_szSolid.ok k, laws_toSolid.ok k, spec_DepthOf.ok k, impl_DepthOf.ok k, laws_eqSolid.ok k, trivial⟩

noncomputable def laws_szPlaneS.f (k : Nat) (a0 : List S4) (a1 : Int) : Option Int :=
  if (decide ((W (a1 - (a0.length : Int))) < 0)) = true then (some (-1)) else (some (W (a1 - (a0.length : Int))))
noncomputable def laws_szPlaneS.e (k : Nat) : FE := { α := (List S4) × Int × Unit, β := Int, args := (lCons (aSl .s4) (lCons (aI .i64) lNil)), ret := (rOne (aI .i64)), f := fun p => laws_szPlaneS.f k p.1 p.2.1 }
noncomputable def laws_szPlaneS.c (k : Nat) : List (Nat × CE) := []
noncomputable def laws_szPlaneS.bd : Code := match Try.f31.body with | some c => c | none => .skip
noncomputable def laws_szPlaneS.g (k : Nat) : List (Nat × LE) := []
theorem laws_szPlaneS.link (k : Nat) (a0 : List S4) (a1 : Int) : evFun (mkCx Try.prog (laws_szPlaneS.c k) (laws_szPlaneS.g k) : Cx Int) Try.f31 ((laws_szPlaneS.e k).args.enc (a0, a1, ())) (laws_szPlaneS.e k).ret.dec = laws_szPlaneS.f k a0 a1 := by kernel_rfl
theorem laws_szPlaneS.ok1 (k : Nat) (hC : AllFun Try.prog (laws_szPlaneS.c k)) : Fun Try.prog 31 (laws_szPlaneS.e k).G := fun_ok mixed (body := laws_szPlaneS.bd) Try.func31 (by kernel_rfl) (by kernel_rfl) (by kernel_rfl) hC (loops_all 0 (by kernel_rfl) fun i hi => absurd hi (Nat.not_lt_zero i)) (laws_szPlaneS.e k) (fun a => Nat.le_of_ble_eq_true (by kernel_rfl)) fun a b h => (laws_szPlaneS.link k a.1 a.2.1).trans h
theorem laws_szPlaneS.ok (k : Nat) : Fun Try.prog 31 (laws_szPlaneS.e k).G := laws_szPlaneS.ok1 k trivial

noncomputable def spec_l6Right.H2 : Hd := ⟨[], [0, 3], []⟩
@[reducible] def spec_l6Right.A2 : Type := (((List S4) × Int × Unit) × (Unit))
noncomputable def spec_l6Right.Z2 : SC spec_l6Right.A2 := sC spec_l6Right.H2 (eCons 0 (tP (aSl .s4)) (eCons 3 (tP (aI .i64)) eNil)) bNil
@[reducible] def spec_l6Right.B2 : Type := ((Bool × Unit) × (Unit)) ⊕ (((List S4) × Unit) × (Unit))
noncomputable def spec_l6Right.X2 : XC spec_l6Right.B2 := xOr (xRet (sC ⟨[], [2], []⟩ (eCons 2 (tP aB) eNil) bNil)) (xExit 0 (sC ⟨[], [0], []⟩ (eCons 0 (tP (aSl .s4)) eNil) bNil))
noncomputable def spec_l6Right.s2 (k : Nat)  (J : (List S4) → Int → Option spec_l6Right.B2) (x0 : List S4) (x3 : Int) : Option spec_l6Right.B2 :=
  if (decide (x3 < (x0.length : Int))) = true then (if 0 ≤ x3 then (if x3 < (x0.length : Int) then ((spec_PlaneOk.f k  (rd x0 x3)).bind fun t1 => if (!t1) = true then (some (.inl ((false, ()), (())))) else (J x0 (W (x3 + 1)))) else none) else none) else (some (.inr ((x0, ()), (()))))
noncomputable def spec_l6Right.l2 (k : Nat)  : Nat → (List S4) → Int → Option spec_l6Right.B2
  | 0, _, _ => none
  | n + 1, x0, x3 => spec_l6Right.s2 k (spec_l6Right.l2 k n) x0 x3
noncomputable def spec_l6Right.f (k : Nat) (a0 : List S4) : Option Bool :=
  (spec_l6Right.l2 k k a0 0).bind fun | .inl r2 => (some r2.1.1) | .inr x3 => (some (decide ((x3.1.1.length : Int) ≤ 24)))
noncomputable def spec_l6Right.e (k : Nat) : FE := { α := (List S4) × Unit, β := Bool, args := (lCons (aSl .s4) lNil), ret := (rOne aB), f := fun p => spec_l6Right.f k p.1 }
noncomputable def spec_l6Right.c (k : Nat) : List (Nat × CE) := [(57, .fn (spec_PlaneOk.e k))]
noncomputable def spec_l6Right.bd : Code := match Try.f76.body with | some c => c | none => .skip
noncomputable def spec_l6Right.e2 (k : Nat) : LE := { H := spec_l6Right.H2, α := spec_l6Right.A2, β := spec_l6Right.B2, st := spec_l6Right.Z2, xt := spec_l6Right.X2, f := fun p => spec_l6Right.l2 k k p.1.1 p.1.2.1 }
noncomputable def spec_l6Right.g (k : Nat) : List (Nat × LE) := [(2, spec_l6Right.e2 k)]
theorem spec_l6Right.t2 (k : Nat) (I : S2 → Option spec_l6Right.B2) (x0 : List S4) (x3 : Int) : stepOf (mkCx Try.prog (spec_l6Right.c k) (spec_l6Right.g k) : Cx spec_l6Right.B2) (loopAt spec_l6Right.bd 0) spec_l6Right.H2 spec_l6Right.X2.dec I (spec_l6Right.Z2.enc ((x0, x3, ()), (()))) = spec_l6Right.s2 k (fun x0 x3 => I (spec_l6Right.Z2.enc ((x0, x3, ()), (())))) x0 x3 := by kernel_rfl
theorem spec_l6Right.i2 (k : Nat) : ∀ (n : Nat) (x0 : List S4) (x3 : Int), iter (evCode (mkCx Try.prog (spec_l6Right.c k) (spec_l6Right.g k) : Cx spec_l6Right.B2) (loopAt spec_l6Right.bd 0)) spec_l6Right.H2 spec_l6Right.X2.dec n (spec_l6Right.Z2.enc ((x0, x3, ()), (()))) = spec_l6Right.l2 k n x0 x3
  | 0, _, _ => rfl
  | n + 1, x0, x3 => ((iter_step _ _ _ _ n _).trans (spec_l6Right.t2 k _ x0 x3)).trans (congrArg (fun J => spec_l6Right.s2 k J x0 x3) (funext fun x0 => funext fun x3 => spec_l6Right.i2 k n x0 x3))
theorem spec_l6Right.to2 (k : Nat) (hC : AllFun Try.prog (spec_l6Right.c k)) : LoopTo Try.prog 19 (spec_l6Right.e2 k) (loopAt spec_l6Right.bd 0) := loop_to mixed hC (by kernel_rfl) (loops_all 0 (by kernel_rfl) fun i hi => absurd hi (Nat.not_lt_zero i)) fun a b h => ⟨k, (spec_l6Right.i2 k k a.1.1 a.1.2.1).trans h⟩
theorem spec_l6Right.link (k : Nat) (a0 : List S4) : evFun (mkCx Try.prog (spec_l6Right.c k) (spec_l6Right.g k) : Cx Bool) Try.f76 ((spec_l6Right.e k).args.enc (a0, ())) (spec_l6Right.e k).ret.dec = spec_l6Right.f k a0 := by kernel_rfl
theorem spec_l6Right.ok1 (k : Nat) (hC : AllFun Try.prog (spec_l6Right.c k)) : Fun Try.prog 76 (spec_l6Right.e k).G := fun_ok mixed (body := spec_l6Right.bd) Try.func76 (by kernel_rfl) (by kernel_rfl) (by kernel_rfl) hC (loops_all 1 (by kernel_rfl) fun i hi => by obtain rfl : i = 0 := Nat.lt_one_iff.1 hi; exact ⟨spec_l6Right.e2 k, by kernel_rfl, spec_l6Right.to2 k hC⟩) (spec_l6Right.e k) (fun a => Nat.le_of_ble_eq_true (by kernel_rfl)) fun a b h => (spec_l6Right.link k a.1).trans h
theorem spec_l6Right.ok (k : Nat) : Fun Try.prog 76 (spec_l6Right.e k).G := spec_l6Right.ok1 k ⟨spec_PlaneOk.ok k, trivial⟩

noncomputable def spec_l6Open.H2 : Hd := ⟨[], [0, 3], []⟩
@[reducible] def spec_l6Open.A2 : Type := (((List S4) × Int × Unit) × (Unit))
noncomputable def spec_l6Open.Z2 : SC spec_l6Open.A2 := sC spec_l6Open.H2 (eCons 0 (tP (aSl .s4)) (eCons 3 (tP (aI .i64)) eNil)) bNil
@[reducible] def spec_l6Open.B2 : Type := ((Bool × Unit) × (Unit)) ⊕ ((Unit) × (Unit))
noncomputable def spec_l6Open.X2 : XC spec_l6Open.B2 := xOr (xRet (sC ⟨[], [2], []⟩ (eCons 2 (tP aB) eNil) bNil)) (xExit 0 (sC ⟨[], [], []⟩ eNil bNil))
noncomputable def spec_l6Open.s2 (k : Nat)  (J : (List S4) → Int → Option spec_l6Open.B2) (x0 : List S4) (x3 : Int) : Option spec_l6Open.B2 :=
  if (decide (x3 < (x0.length : Int))) = true then (if 0 ≤ x3 then (if x3 ≤ (x0.length : Int) then (if 0 ≤ x3 then (if x3 < (x0.length : Int) then ((spec_l6With.f k  (x0.take x3.toNat) (rd x0 x3)).bind fun t1 => if t1 = true then (some (.inl ((false, ()), (())))) else (J x0 (W (x3 + 1)))) else none) else none) else none) else none) else (some (.inr ((()), (()))))
noncomputable def spec_l6Open.l2 (k : Nat)  : Nat → (List S4) → Int → Option spec_l6Open.B2
  | 0, _, _ => none
  | n + 1, x0, x3 => spec_l6Open.s2 k (spec_l6Open.l2 k n) x0 x3
noncomputable def spec_l6Open.f (k : Nat) (a0 : List S4) : Option Bool :=
  (spec_l6Open.l2 k k a0 1).bind fun | .inl r2 => (some r2.1.1) | .inr x3 => (some true)
noncomputable def spec_l6Open.e (k : Nat) : FE := { α := (List S4) × Unit, β := Bool, args := (lCons (aSl .s4) lNil), ret := (rOne aB), f := fun p => spec_l6Open.f k p.1 }
noncomputable def spec_l6Open.c (k : Nat) : List (Nat × CE) := [(104, .fn (spec_l6With.e k))]
noncomputable def spec_l6Open.bd : Code := match Try.f77.body with | some c => c | none => .skip
noncomputable def spec_l6Open.e2 (k : Nat) : LE := { H := spec_l6Open.H2, α := spec_l6Open.A2, β := spec_l6Open.B2, st := spec_l6Open.Z2, xt := spec_l6Open.X2, f := fun p => spec_l6Open.l2 k k p.1.1 p.1.2.1 }
noncomputable def spec_l6Open.g (k : Nat) : List (Nat × LE) := [(2, spec_l6Open.e2 k)]
theorem spec_l6Open.t2 (k : Nat) (I : S2 → Option spec_l6Open.B2) (x0 : List S4) (x3 : Int) : stepOf (mkCx Try.prog (spec_l6Open.c k) (spec_l6Open.g k) : Cx spec_l6Open.B2) (loopAt spec_l6Open.bd 0) spec_l6Open.H2 spec_l6Open.X2.dec I (spec_l6Open.Z2.enc ((x0, x3, ()), (()))) = spec_l6Open.s2 k (fun x0 x3 => I (spec_l6Open.Z2.enc ((x0, x3, ()), (())))) x0 x3 := by kernel_rfl
theorem spec_l6Open.i2 (k : Nat) : ∀ (n : Nat) (x0 : List S4) (x3 : Int), iter (evCode (mkCx Try.prog (spec_l6Open.c k) (spec_l6Open.g k) : Cx spec_l6Open.B2) (loopAt spec_l6Open.bd 0)) spec_l6Open.H2 spec_l6Open.X2.dec n (spec_l6Open.Z2.enc ((x0, x3, ()), (()))) = spec_l6Open.l2 k n x0 x3
  | 0, _, _ => rfl
  | n + 1, x0, x3 => ((iter_step _ _ _ _ n _).trans (spec_l6Open.t2 k _ x0 x3)).trans (congrArg (fun J => spec_l6Open.s2 k J x0 x3) (funext fun x0 => funext fun x3 => spec_l6Open.i2 k n x0 x3))
theorem spec_l6Open.to2 (k : Nat) (hC : AllFun Try.prog (spec_l6Open.c k)) : LoopTo Try.prog 18 (spec_l6Open.e2 k) (loopAt spec_l6Open.bd 0) := loop_to mixed hC (by kernel_rfl) (loops_all 0 (by kernel_rfl) fun i hi => absurd hi (Nat.not_lt_zero i)) fun a b h => ⟨k, (spec_l6Open.i2 k k a.1.1 a.1.2.1).trans h⟩
theorem spec_l6Open.link (k : Nat) (a0 : List S4) : evFun (mkCx Try.prog (spec_l6Open.c k) (spec_l6Open.g k) : Cx Bool) Try.f77 ((spec_l6Open.e k).args.enc (a0, ())) (spec_l6Open.e k).ret.dec = spec_l6Open.f k a0 := by kernel_rfl
theorem spec_l6Open.ok1 (k : Nat) (hC : AllFun Try.prog (spec_l6Open.c k)) : Fun Try.prog 77 (spec_l6Open.e k).G := fun_ok mixed (body := spec_l6Open.bd) Try.func77 (by kernel_rfl) (by kernel_rfl) (by kernel_rfl) hC (loops_all 1 (by kernel_rfl) fun i hi => by obtain rfl : i = 0 := Nat.lt_one_iff.1 hi; exact ⟨spec_l6Open.e2 k, by kernel_rfl, spec_l6Open.to2 k hC⟩) (spec_l6Open.e k) (fun a => Nat.le_of_ble_eq_true (by kernel_rfl)) fun a b h => (spec_l6Open.link k a.1).trans h
theorem spec_l6Open.ok (k : Nat) : Fun Try.prog 77 (spec_l6Open.e k).G := spec_l6Open.ok1 k ⟨spec_l6With.ok k, trivial⟩

noncomputable def spec_l6Next.H7 : Hd := ⟨[], [0, 6], [999999]⟩
@[reducible] def spec_l6Next.A7 : Type := ((Unit × Int × Unit) × ((List Int) × Unit))
noncomputable def spec_l6Next.Z7 : SC spec_l6Next.A7 := sC spec_l6Next.H7 (eCons 0 (tOsl 999999) (eCons 6 (tP (aI .i64)) eNil)) (bCons 999999 (xRow 3 (.i .i64)) bNil)
@[reducible] def spec_l6Next.B7 : Type := ((Unit × Unit) × ((List Int) × Unit))
noncomputable def spec_l6Next.X7 : XC spec_l6Next.B7 := xExit 2 (sC ⟨[], [0], [999999]⟩ (eCons 0 (tOsl 999999) eNil) (bCons 999999 (xRow 3 (.i .i64)) bNil))
noncomputable def spec_l6Next.s7 (k : Nat)  (J : Int → (List Int) → Option spec_l6Next.B7) (x6 : Int) (b999999 : List Int) : Option spec_l6Next.B7 :=
  if (decide (x6 < (b999999.length : Int))) = true then (if 0 ≤ (W (x6 - 1)) then (if (W (x6 - 1)) < (b999999.length : Int) then (if ((W (x6 - 1))).toNat < b999999.length then (if 0 ≤ x6 then (if x6 < (b999999.length : Int) then (if x6.toNat < b999999.length then (J (W (x6 + 1)) (b999999.set x6.toNat (W ((b999999.getD (((W (x6 - 1))).toNat) default) + 1)))) else none) else none) else none) else none) else none) else none) else (some (((), ()), (b999999, ())))
noncomputable def spec_l6Next.l7 (k : Nat)  : Nat → Int → (List Int) → Option spec_l6Next.B7
  | 0, _, _ => none
  | n + 1, x6, b999999 => spec_l6Next.s7 k (spec_l6Next.l7 k n) x6 b999999
noncomputable def spec_l6Next.H2 : Hd := ⟨[], [0, 1, 5], [999999]⟩
@[reducible] def spec_l6Next.A2 : Type := ((Unit × Int × Int × Unit) × ((List Int) × Unit))
noncomputable def spec_l6Next.Z2 : SC spec_l6Next.A2 := sC spec_l6Next.H2 (eCons 0 (tOsl 999999) (eCons 1 (tP (aI .i64)) (eCons 5 (tP (aI .i64)) eNil))) (bCons 999999 (xRow 3 (.i .i64)) bNil)
@[reducible] def spec_l6Next.B2 : Type := ((Unit × Bool × Unit) × ((List Int) × Unit)) ⊕ ((Unit × Unit) × ((List Int) × Unit))
noncomputable def spec_l6Next.X2 : XC spec_l6Next.B2 := xOr (xRet (sC ⟨[], [0, 4], [999999]⟩ (eCons 0 (tOsl 999999) (eCons 4 (tP aB) eNil)) (bCons 999999 (xRow 3 (.i .i64)) bNil))) (xExit 0 (sC ⟨[], [0], [999999]⟩ (eCons 0 (tOsl 999999) eNil) (bCons 999999 (xRow 3 (.i .i64)) bNil)))
noncomputable def spec_l6Next.s2 (k : Nat)  (J : Int → Int → (List Int) → Option spec_l6Next.B2) (x1 : Int) (x5 : Int) (b999999 : List Int) : Option spec_l6Next.B2 :=
  if (decide (x5 ≥ 0)) = true then (if 0 ≤ x5 then (if x5 < (b999999.length : Int) then (if x5.toNat < b999999.length then (if (decide ((b999999.getD x5.toNat default) < (W ((W (x1 - (b999999.length : Int))) + x5)))) = true then (if 0 ≤ x5 then (if x5 < (b999999.length : Int) then (if x5.toNat < b999999.length then (if 0 ≤ x5 then (if x5 < (b999999.length : Int) then (if x5.toNat < b999999.length then ((spec_l6Next.l7 k k (W (x5 + 1)) (b999999.set x5.toNat (W ((b999999.getD x5.toNat default) + 1)))).bind fun x1 => some (.inl (((), true, ()), (x1.2.1, ())))) else none) else none) else none) else none) else none) else none) else (J x1 (W (x5 - 1)) b999999)) else none) else none) else none) else (some (.inr (((), ()), (b999999, ()))))
noncomputable def spec_l6Next.l2 (k : Nat)  : Nat → Int → Int → (List Int) → Option spec_l6Next.B2
  | 0, _, _, _ => none
  | n + 1, x1, x5, b999999 => spec_l6Next.s2 k (spec_l6Next.l2 k n) x1 x5 b999999
noncomputable def spec_l6Next.f (k : Nat) (a0 : List Int) (a1 : Int) : Option (Bool × (List Int)) :=
  (spec_l6Next.l2 k k a1 (W ((a0.length : Int) - 1)) a0).bind fun | .inl r2 => (some (r2.1.2.1, r2.2.1)) | .inr x3 => (some (false, x3.2.1))
noncomputable def spec_l6Next.e (k : Nat) : FS := { σ := List Int, α := Int × Unit, β := Bool, sk := .row, st := (xRow 3 (.i .i64)), args := (lCons (aI .i64) lNil), ret := (pOne pB), f := fun s p => spec_l6Next.f k s p.1 }
noncomputable def spec_l6Next.c (k : Nat) : List (Nat × CE) := []
noncomputable def spec_l6Next.bd : Code := match Try.f78.body with | some c => c | none => .skip
noncomputable def spec_l6Next.e7 (k : Nat) : LE := { H := spec_l6Next.H7, α := spec_l6Next.A7, β := spec_l6Next.B7, st := spec_l6Next.Z7, xt := spec_l6Next.X7, f := fun p => spec_l6Next.l7 k k p.1.2.1 p.2.1 }
noncomputable def spec_l6Next.e2 (k : Nat) : LE := { H := spec_l6Next.H2, α := spec_l6Next.A2, β := spec_l6Next.B2, st := spec_l6Next.Z2, xt := spec_l6Next.X2, f := fun p => spec_l6Next.l2 k k p.1.2.1 p.1.2.2.1 p.2.1 }
noncomputable def spec_l6Next.g (k : Nat) : List (Nat × LE) := [(7, spec_l6Next.e7 k), (2, spec_l6Next.e2 k)]
theorem spec_l6Next.t7 (k : Nat) (I : S2 → Option spec_l6Next.B7) (x6 : Int) (b999999 : List Int) : stepOf (mkCx Try.prog (spec_l6Next.c k) (spec_l6Next.g k) : Cx spec_l6Next.B7) (loopAt (loopAt spec_l6Next.bd 0) 0) spec_l6Next.H7 spec_l6Next.X7.dec I (spec_l6Next.Z7.enc (((), x6, ()), (b999999, ()))) = spec_l6Next.s7 k (fun x6 b999999 => I (spec_l6Next.Z7.enc (((), x6, ()), (b999999, ())))) x6 b999999 := by kernel_rfl
theorem spec_l6Next.i7 (k : Nat) : ∀ (n : Nat) (x6 : Int) (b999999 : List Int), iter (evCode (mkCx Try.prog (spec_l6Next.c k) (spec_l6Next.g k) : Cx spec_l6Next.B7) (loopAt (loopAt spec_l6Next.bd 0) 0)) spec_l6Next.H7 spec_l6Next.X7.dec n (spec_l6Next.Z7.enc (((), x6, ()), (b999999, ()))) = spec_l6Next.l7 k n x6 b999999
  | 0, _, _ => rfl
  | n + 1, x6, b999999 => ((iter_step _ _ _ _ n _).trans (spec_l6Next.t7 k _ x6 b999999)).trans (congrArg (fun J => spec_l6Next.s7 k J x6 b999999) (funext fun x6 => funext fun b999999 => spec_l6Next.i7 k n x6 b999999))
theorem spec_l6Next.t2 (k : Nat) (I : S2 → Option spec_l6Next.B2) (x1 : Int) (x5 : Int) (b999999 : List Int) : stepOf (mkCx Try.prog (spec_l6Next.c k) (spec_l6Next.g k) : Cx spec_l6Next.B2) (loopAt spec_l6Next.bd 0) spec_l6Next.H2 spec_l6Next.X2.dec I (spec_l6Next.Z2.enc (((), x1, x5, ()), (b999999, ()))) = spec_l6Next.s2 k (fun x1 x5 b999999 => I (spec_l6Next.Z2.enc (((), x1, x5, ()), (b999999, ())))) x1 x5 b999999 := by kernel_rfl
theorem spec_l6Next.i2 (k : Nat) : ∀ (n : Nat) (x1 : Int) (x5 : Int) (b999999 : List Int), iter (evCode (mkCx Try.prog (spec_l6Next.c k) (spec_l6Next.g k) : Cx spec_l6Next.B2) (loopAt spec_l6Next.bd 0)) spec_l6Next.H2 spec_l6Next.X2.dec n (spec_l6Next.Z2.enc (((), x1, x5, ()), (b999999, ()))) = spec_l6Next.l2 k n x1 x5 b999999
  | 0, _, _, _ => rfl
  | n + 1, x1, x5, b999999 => ((iter_step _ _ _ _ n _).trans (spec_l6Next.t2 k _ x1 x5 b999999)).trans (congrArg (fun J => spec_l6Next.s2 k J x1 x5 b999999) (funext fun x1 => funext fun x5 => funext fun b999999 => spec_l6Next.i2 k n x1 x5 b999999))
theorem spec_l6Next.to7 (k : Nat) (hC : AllFun Try.prog (spec_l6Next.c k)) : LoopTo Try.prog 48 (spec_l6Next.e7 k) (loopAt (loopAt spec_l6Next.bd 0) 0) := loop_to mixed hC (by kernel_rfl) (loops_all 0 (by kernel_rfl) fun i hi => absurd hi (Nat.not_lt_zero i)) fun a b h => ⟨k, (spec_l6Next.i7 k k a.1.2.1 a.2.1).trans h⟩
theorem spec_l6Next.to2 (k : Nat) (hC : AllFun Try.prog (spec_l6Next.c k)) : LoopTo Try.prog 48 (spec_l6Next.e2 k) (loopAt spec_l6Next.bd 0) := loop_to mixed hC (by kernel_rfl) (loops_all 1 (by kernel_rfl) fun i hi => by obtain rfl : i = 0 := Nat.lt_one_iff.1 hi; exact ⟨spec_l6Next.e7 k, by kernel_rfl, spec_l6Next.to7 k hC⟩) fun a b h => ⟨k, (spec_l6Next.i2 k k a.1.2.1 a.1.2.2.1 a.2.1).trans h⟩
theorem spec_l6Next.link (k : Nat) (a0 : List Int) (a1 : Int) : evFunS (mkCx Try.prog (spec_l6Next.c k) (spec_l6Next.g k) : Cx (Bool × (List Int))) Try.f78 (spec_l6Next.e k).sk ((spec_l6Next.e k).st.enc a0) ((spec_l6Next.e k).args.enc (a1, ())) (spec_l6Next.e k).fin = spec_l6Next.f k a0 a1 := by kernel_rfl
theorem spec_l6Next.ok1 (k : Nat) (hC : AllFun Try.prog (spec_l6Next.c k)) : FunS Try.prog 78 (spec_l6Next.e k).sk (spec_l6Next.e k).H := fun_okS mixed (body := spec_l6Next.bd) Try.func78 (by kernel_rfl) (by kernel_rfl) (by kernel_rfl) hC (loops_all 1 (by kernel_rfl) fun i hi => by obtain rfl : i = 0 := Nat.lt_one_iff.1 hi; exact ⟨spec_l6Next.e2 k, by kernel_rfl, spec_l6Next.to2 k hC⟩) (spec_l6Next.e k) (fun a => Nat.le_of_ble_eq_true (by kernel_rfl)) (Nat.le_of_ble_eq_true (by kernel_rfl)) fun s a b h => (spec_l6Next.link k s a.1).trans h
theorem spec_l6Next.ok (k : Nat) : FunS Try.prog 78 (spec_l6Next.e k).sk (spec_l6Next.e k).H := spec_l6Next.ok1 k trivial

end Go.Proofs.Ytfgaeenlnkioaaa.G
