/- Go functions told as plain Lean functions; that the code does what these tell. Printed by a program of the session (evp.py). -/
import Derived.Test.YtalkkenkeilmpaaGreatEv16
import Derived.Test.YtalkkenkeilmpaaGreatG6
namespace Go.Proofs.YtalkkenkeilmpaaGreat.G
open Go Go.RowKit Go.Proofs Go.Proofs.YtalkkenkeilmpaaGreat.Ev
set_option linter.unusedVariables false
set_option maxRecDepth 100000

noncomputable def spec_l4Rank.H14 : Hd := ⟨[], [0, 3, 4, 5, 6], [], [], []⟩
@[reducible] def spec_l4Rank.A14 : Type := (((List S4) × Int × Int × Int × Int × Unit) × (Unit))
noncomputable def spec_l4Rank.Z14 : SC spec_l4Rank.A14 := sC spec_l4Rank.H14 (eCons 0 (tP (aSl .s4)) (eCons 3 (tP (aI .i64)) (eCons 4 (tP (aI .i64)) (eCons 5 (tP (aI .i64)) (eCons 6 (tP (aI .i64)) eNil))))) bNil
@[reducible] def spec_l4Rank.B14 : Type := ((Int × Unit) × (Unit)) ⊕ (((List S4) × Int × Int × Int × Unit) × (Unit))
noncomputable def spec_l4Rank.X14 : XC spec_l4Rank.B14 := xOr (xRet (sC ⟨[], [2], [], [], []⟩ (eCons 2 (tP (aI .i64)) eNil) bNil)) (xExit 4 (sC ⟨[], [0, 3, 4, 5], [], [], []⟩ (eCons 0 (tP (aSl .s4)) (eCons 3 (tP (aI .i64)) (eCons 4 (tP (aI .i64)) (eCons 5 (tP (aI .i64)) eNil)))) bNil))
noncomputable def spec_l4Rank.s14 (k : Nat)  (J : (List S4) → Int → Int → Int → Int → Option spec_l4Rank.B14) (x0 : List S4) (x3 : Int) (x4 : Int) (x5 : Int) (x6 : Int) : Option spec_l4Rank.B14 :=
  if (decide (x6 < (x0.length : Int))) = true then (if 0 ≤ x4 then (if x4 < (x0.length : Int) then (if 0 ≤ x5 then (if x5 < (x0.length : Int) then (if 0 ≤ x6 then (if x6 < (x0.length : Int) then ((spec_l4Det3.f k  (rd x0 x4) (rd x0 x5) (rd x0 x6)).bind fun t2 => if (t2 != 0) = true then (some (.inl ((3, ()), (())))) else (J x0 x3 x4 x5 (W (x6 + 1)))) else none) else none) else none) else none) else none) else none) else (some (.inr ((x0, x3, x4, x5, ()), (()))))
noncomputable def spec_l4Rank.l14 (k : Nat)  : Nat → (List S4) → Int → Int → Int → Int → Option spec_l4Rank.B14
  | 0, _, _, _, _, _ => none
  | n + 1, x0, x3, x4, x5, x6 => spec_l4Rank.s14 k (spec_l4Rank.l14 k n) x0 x3 x4 x5 x6
noncomputable def spec_l4Rank.H8 : Hd := ⟨[], [0, 3, 4, 5], [], [], []⟩
@[reducible] def spec_l4Rank.A8 : Type := (((List S4) × Int × Int × Int × Unit) × (Unit))
noncomputable def spec_l4Rank.Z8 : SC spec_l4Rank.A8 := sC spec_l4Rank.H8 (eCons 0 (tP (aSl .s4)) (eCons 3 (tP (aI .i64)) (eCons 4 (tP (aI .i64)) (eCons 5 (tP (aI .i64)) eNil)))) bNil
@[reducible] def spec_l4Rank.B8 : Type := ((Int × Unit) × (Unit)) ⊕ (((List S4) × Int × Int × Unit) × (Unit))
noncomputable def spec_l4Rank.X8 : XC spec_l4Rank.B8 := xOr (xRet (sC ⟨[], [2], [], [], []⟩ (eCons 2 (tP (aI .i64)) eNil) bNil)) (xExit 2 (sC ⟨[], [0, 3, 4], [], [], []⟩ (eCons 0 (tP (aSl .s4)) (eCons 3 (tP (aI .i64)) (eCons 4 (tP (aI .i64)) eNil))) bNil))
noncomputable def spec_l4Rank.s8 (k : Nat)  (J : (List S4) → Int → Int → Int → Option spec_l4Rank.B8) (x0 : List S4) (x3 : Int) (x4 : Int) (x5 : Int) : Option spec_l4Rank.B8 :=
  if (decide (x5 < (x0.length : Int))) = true then (if 0 ≤ x4 then (if x4 < (x0.length : Int) then (if 0 ≤ x5 then (if x5 < (x0.length : Int) then ((spec_l4Cross.f k  (rd x0 x4) (rd x0 x5)).bind fun t1 => if ((t1.x == 0) && ((t1.y == 0) && (t1.z == 0))) = true then (J x0 x3 x4 (W (x5 + 1))) else (if (decide (x3 < 2)) = true then ((spec_l4Rank.l14 k k x0 2 x4 x5 (W (x5 + 1))).bind fun | .inl r3 => (some (.inl ((r3.1.1, ()), (())))) | .inr x4 => (J x4.1.1 x4.1.2.1 x4.1.2.2.1 (W (x4.1.2.2.2.1 + 1)))) else ((spec_l4Rank.l14 k k x0 x3 x4 x5 (W (x5 + 1))).bind fun | .inl r5 => (some (.inl ((r5.1.1, ()), (())))) | .inr x6 => (J x6.1.1 x6.1.2.1 x6.1.2.2.1 (W (x6.1.2.2.2.1 + 1)))))) else none) else none) else none) else none) else (some (.inr ((x0, x3, x4, ()), (()))))
noncomputable def spec_l4Rank.l8 (k : Nat)  : Nat → (List S4) → Int → Int → Int → Option spec_l4Rank.B8
  | 0, _, _, _, _ => none
  | n + 1, x0, x3, x4, x5 => spec_l4Rank.s8 k (spec_l4Rank.l8 k n) x0 x3 x4 x5
noncomputable def spec_l4Rank.H3 : Hd := ⟨[], [0, 3, 4], [], [], []⟩
@[reducible] def spec_l4Rank.A3 : Type := (((List S4) × Int × Int × Unit) × (Unit))
noncomputable def spec_l4Rank.Z3 : SC spec_l4Rank.A3 := sC spec_l4Rank.H3 (eCons 0 (tP (aSl .s4)) (eCons 3 (tP (aI .i64)) (eCons 4 (tP (aI .i64)) eNil))) bNil
@[reducible] def spec_l4Rank.B3 : Type := ((Int × Unit) × (Unit)) ⊕ ((Int × Unit) × (Unit))
noncomputable def spec_l4Rank.X3 : XC spec_l4Rank.B3 := xOr (xRet (sC ⟨[], [2], [], [], []⟩ (eCons 2 (tP (aI .i64)) eNil) bNil)) (xExit 0 (sC ⟨[], [3], [], [], []⟩ (eCons 3 (tP (aI .i64)) eNil) bNil))
noncomputable def spec_l4Rank.s3 (k : Nat)  (J : (List S4) → Int → Int → Option spec_l4Rank.B3) (x0 : List S4) (x3 : Int) (x4 : Int) : Option spec_l4Rank.B3 :=
  if (decide (x4 < (x0.length : Int))) = true then (if (x3 == 0) = true then (if 0 ≤ x4 then (if x4 < (x0.length : Int) then (if (!(((rd x0 x4).a == 0) && (((rd x0 x4).b == 0) && (((rd x0 x4).c == 0) && ((rd x0 x4).d == 0))))) = true then ((spec_l4Rank.l8 k k x0 1 x4 (W (x4 + 1))).bind fun | .inl r7 => (some (.inl ((r7.1.1, ()), (())))) | .inr x8 => (J x8.1.1 x8.1.2.1 (W (x8.1.2.2.1 + 1)))) else ((spec_l4Rank.l8 k k x0 x3 x4 (W (x4 + 1))).bind fun | .inl r9 => (some (.inl ((r9.1.1, ()), (())))) | .inr x10 => (J x10.1.1 x10.1.2.1 (W (x10.1.2.2.1 + 1))))) else none) else none) else ((spec_l4Rank.l8 k k x0 x3 x4 (W (x4 + 1))).bind fun | .inl r11 => (some (.inl ((r11.1.1, ()), (())))) | .inr x12 => (J x12.1.1 x12.1.2.1 (W (x12.1.2.2.1 + 1))))) else (some (.inr ((x3, ()), (()))))
noncomputable def spec_l4Rank.l3 (k : Nat)  : Nat → (List S4) → Int → Int → Option spec_l4Rank.B3
  | 0, _, _, _ => none
  | n + 1, x0, x3, x4 => spec_l4Rank.s3 k (spec_l4Rank.l3 k n) x0 x3 x4
noncomputable def spec_l4Rank.f (k : Nat) (a0 : List S4) : Option Int :=
  (spec_l4Rank.l3 k k a0 0 0).bind fun | .inl r13 => (some r13.1.1) | .inr x14 => (some x14.1.1)
noncomputable def spec_l4Rank.e (k : Nat) : FE := { α := (List S4) × Unit, β := Int, args := (lCons (aSl .s4) lNil), ret := (rOne (aI .i64)), f := fun p => spec_l4Rank.f k p.1 }
noncomputable def spec_l4Rank.c (k : Nat) : List (Nat × CE) := [(66, .fn (spec_l4Cross.e k)), (91, .fn (spec_l4Det3.e k))]
noncomputable def spec_l4Rank.bd : Code := match Tryz.f65.body with | some c => c | none => .skip
noncomputable def spec_l4Rank.e14 (k : Nat) : LE := { H := spec_l4Rank.H14, α := spec_l4Rank.A14, β := spec_l4Rank.B14, st := spec_l4Rank.Z14, xt := spec_l4Rank.X14, f := fun p => spec_l4Rank.l14 k k p.1.1 p.1.2.1 p.1.2.2.1 p.1.2.2.2.1 p.1.2.2.2.2.1 }
noncomputable def spec_l4Rank.e8 (k : Nat) : LE := { H := spec_l4Rank.H8, α := spec_l4Rank.A8, β := spec_l4Rank.B8, st := spec_l4Rank.Z8, xt := spec_l4Rank.X8, f := fun p => spec_l4Rank.l8 k k p.1.1 p.1.2.1 p.1.2.2.1 p.1.2.2.2.1 }
noncomputable def spec_l4Rank.e3 (k : Nat) : LE := { H := spec_l4Rank.H3, α := spec_l4Rank.A3, β := spec_l4Rank.B3, st := spec_l4Rank.Z3, xt := spec_l4Rank.X3, f := fun p => spec_l4Rank.l3 k k p.1.1 p.1.2.1 p.1.2.2.1 }
noncomputable def spec_l4Rank.g (k : Nat) : List (Nat × LE) := [(14, spec_l4Rank.e14 k), (8, spec_l4Rank.e8 k), (3, spec_l4Rank.e3 k)]
theorem spec_l4Rank.t14 (k : Nat) (I : S2 → Option spec_l4Rank.B14) (x0 : List S4) (x3 : Int) (x4 : Int) (x5 : Int) (x6 : Int) : stepOf (mkCx Tryz.prog (spec_l4Rank.c k) (spec_l4Rank.g k) : Cx spec_l4Rank.B14) (loopAt (loopAt (loopAt spec_l4Rank.bd 0) 0) 0) spec_l4Rank.H14 spec_l4Rank.X14.dec I (spec_l4Rank.Z14.enc ((x0, x3, x4, x5, x6, ()), (()))) = spec_l4Rank.s14 k (fun x0 x3 x4 x5 x6 => I (spec_l4Rank.Z14.enc ((x0, x3, x4, x5, x6, ()), (())))) x0 x3 x4 x5 x6 := by kernel_rfl
theorem spec_l4Rank.i14 (k : Nat) : ∀ (n : Nat) (x0 : List S4) (x3 : Int) (x4 : Int) (x5 : Int) (x6 : Int), iter (evCode (mkCx Tryz.prog (spec_l4Rank.c k) (spec_l4Rank.g k) : Cx spec_l4Rank.B14) (loopAt (loopAt (loopAt spec_l4Rank.bd 0) 0) 0)) spec_l4Rank.H14 spec_l4Rank.X14.dec n (spec_l4Rank.Z14.enc ((x0, x3, x4, x5, x6, ()), (()))) = spec_l4Rank.l14 k n x0 x3 x4 x5 x6
  | 0, _, _, _, _, _ => rfl
  | n + 1, x0, x3, x4, x5, x6 => ((iter_step _ _ _ _ n _).trans (spec_l4Rank.t14 k _ x0 x3 x4 x5 x6)).trans (congrArg (fun J => spec_l4Rank.s14 k J x0 x3 x4 x5 x6) (funext fun x0 => funext fun x3 => funext fun x4 => funext fun x5 => funext fun x6 => spec_l4Rank.i14 k n x0 x3 x4 x5 x6))
theorem spec_l4Rank.t8 (k : Nat) (I : S2 → Option spec_l4Rank.B8) (x0 : List S4) (x3 : Int) (x4 : Int) (x5 : Int) : stepOf (mkCx Tryz.prog (spec_l4Rank.c k) (spec_l4Rank.g k) : Cx spec_l4Rank.B8) (loopAt (loopAt spec_l4Rank.bd 0) 0) spec_l4Rank.H8 spec_l4Rank.X8.dec I (spec_l4Rank.Z8.enc ((x0, x3, x4, x5, ()), (()))) = spec_l4Rank.s8 k (fun x0 x3 x4 x5 => I (spec_l4Rank.Z8.enc ((x0, x3, x4, x5, ()), (())))) x0 x3 x4 x5 := by kernel_rfl
theorem spec_l4Rank.i8 (k : Nat) : ∀ (n : Nat) (x0 : List S4) (x3 : Int) (x4 : Int) (x5 : Int), iter (evCode (mkCx Tryz.prog (spec_l4Rank.c k) (spec_l4Rank.g k) : Cx spec_l4Rank.B8) (loopAt (loopAt spec_l4Rank.bd 0) 0)) spec_l4Rank.H8 spec_l4Rank.X8.dec n (spec_l4Rank.Z8.enc ((x0, x3, x4, x5, ()), (()))) = spec_l4Rank.l8 k n x0 x3 x4 x5
  | 0, _, _, _, _ => rfl
  | n + 1, x0, x3, x4, x5 => ((iter_step _ _ _ _ n _).trans (spec_l4Rank.t8 k _ x0 x3 x4 x5)).trans (congrArg (fun J => spec_l4Rank.s8 k J x0 x3 x4 x5) (funext fun x0 => funext fun x3 => funext fun x4 => funext fun x5 => spec_l4Rank.i8 k n x0 x3 x4 x5))
theorem spec_l4Rank.t3 (k : Nat) (I : S2 → Option spec_l4Rank.B3) (x0 : List S4) (x3 : Int) (x4 : Int) : stepOf (mkCx Tryz.prog (spec_l4Rank.c k) (spec_l4Rank.g k) : Cx spec_l4Rank.B3) (loopAt spec_l4Rank.bd 0) spec_l4Rank.H3 spec_l4Rank.X3.dec I (spec_l4Rank.Z3.enc ((x0, x3, x4, ()), (()))) = spec_l4Rank.s3 k (fun x0 x3 x4 => I (spec_l4Rank.Z3.enc ((x0, x3, x4, ()), (())))) x0 x3 x4 := by kernel_rfl
theorem spec_l4Rank.i3 (k : Nat) : ∀ (n : Nat) (x0 : List S4) (x3 : Int) (x4 : Int), iter (evCode (mkCx Tryz.prog (spec_l4Rank.c k) (spec_l4Rank.g k) : Cx spec_l4Rank.B3) (loopAt spec_l4Rank.bd 0)) spec_l4Rank.H3 spec_l4Rank.X3.dec n (spec_l4Rank.Z3.enc ((x0, x3, x4, ()), (()))) = spec_l4Rank.l3 k n x0 x3 x4
  | 0, _, _, _ => rfl
  | n + 1, x0, x3, x4 => ((iter_step _ _ _ _ n _).trans (spec_l4Rank.t3 k _ x0 x3 x4)).trans (congrArg (fun J => spec_l4Rank.s3 k J x0 x3 x4) (funext fun x0 => funext fun x3 => funext fun x4 => spec_l4Rank.i3 k n x0 x3 x4))
theorem spec_l4Rank.to14 (k : Nat) (hC : AllFun Tryz.prog (spec_l4Rank.c k)) : LoopTo Tryz.prog 67 (spec_l4Rank.e14 k) (loopAt (loopAt (loopAt spec_l4Rank.bd 0) 0) 0) := loop_to mixed hC (by kernel_rfl) (loops_all 0 (by kernel_rfl) fun i hi => absurd hi (Nat.not_lt_zero i)) fun a b h => ⟨k, (spec_l4Rank.i14 k k a.1.1 a.1.2.1 a.1.2.2.1 a.1.2.2.2.1 a.1.2.2.2.2.1).trans h⟩
theorem spec_l4Rank.to8 (k : Nat) (hC : AllFun Tryz.prog (spec_l4Rank.c k)) : LoopTo Tryz.prog 67 (spec_l4Rank.e8 k) (loopAt (loopAt spec_l4Rank.bd 0) 0) := loop_to mixed hC (by kernel_rfl) (loops_all 1 (by kernel_rfl) fun i hi => by obtain rfl : i = 0 := Nat.lt_one_iff.1 hi; exact ⟨spec_l4Rank.e14 k, by kernel_rfl, spec_l4Rank.to14 k hC⟩) fun a b h => ⟨k, (spec_l4Rank.i8 k k a.1.1 a.1.2.1 a.1.2.2.1 a.1.2.2.2.1).trans h⟩
theorem spec_l4Rank.to3 (k : Nat) (hC : AllFun Tryz.prog (spec_l4Rank.c k)) : LoopTo Tryz.prog 67 (spec_l4Rank.e3 k) (loopAt spec_l4Rank.bd 0) := loop_to mixed hC (by kernel_rfl) (loops_all 1 (by kernel_rfl) fun i hi => by obtain rfl : i = 0 := Nat.lt_one_iff.1 hi; exact ⟨spec_l4Rank.e8 k, by kernel_rfl, spec_l4Rank.to8 k hC⟩) fun a b h => ⟨k, (spec_l4Rank.i3 k k a.1.1 a.1.2.1 a.1.2.2.1).trans h⟩
theorem spec_l4Rank.link (k : Nat) (a0 : List S4) : evFun (mkCx Tryz.prog (spec_l4Rank.c k) (spec_l4Rank.g k) : Cx Int) Tryz.f65 ((spec_l4Rank.e k).args.enc (a0, ())) (spec_l4Rank.e k).ret.dec = spec_l4Rank.f k a0 := by kernel_rfl
theorem spec_l4Rank.ok1 (k : Nat) (hC : AllFun Tryz.prog (spec_l4Rank.c k)) : Fun Tryz.prog 65 (spec_l4Rank.e k).G := fun_ok mixed (body := spec_l4Rank.bd) Tryz.func65 (by kernel_rfl) (by kernel_rfl) (by kernel_rfl) hC (loops_all 1 (by kernel_rfl) fun i hi => by obtain rfl : i = 0 := Nat.lt_one_iff.1 hi; exact ⟨spec_l4Rank.e3 k, by kernel_rfl, spec_l4Rank.to3 k hC⟩) (spec_l4Rank.e k) (fun a => Nat.le_of_ble_eq_true (by kernel_rfl)) fun a b h => (spec_l4Rank.link k a.1).trans h
theorem spec_l4Rank.ok (k : Nat) : Fun Tryz.prog 65 (spec_l4Rank.e k).G := spec_l4Rank.ok1 k ⟨spec_l4Cross.ok k, spec_l4Det3.ok k, trivial⟩

noncomputable def spec_l7Way.H2 : Hd := ⟨[], [0, 2, 4, 7], [4], [], []⟩
@[reducible] def spec_l7Way.A2 : Type := (((List S4) × Int × Unit × Int × Unit) × (S3 × Unit))
noncomputable def spec_l7Way.Z2 : SC spec_l7Way.A2 := sC spec_l7Way.H2 (eCons 0 (tP (aSl .s4)) (eCons 2 (tP (aI .i64)) (eCons 4 (tRef 4 0) (eCons 7 (tP (aI .i64)) eNil)))) (bCons 4 (xVr cS3) bNil)
@[reducible] def spec_l7Way.B2 : Type := ((Bool × Unit) × (Unit)) ⊕ ((Unit) × (Unit))
noncomputable def spec_l7Way.X2 : XC spec_l7Way.B2 := xOr (xRet (sC ⟨[], [6], [], [], []⟩ (eCons 6 (tP aB) eNil) bNil)) (xExit 0 (sC ⟨[], [], [], [], []⟩ eNil bNil))
noncomputable def spec_l7Way.s2 (k : Nat)  (J : (List S4) → Int → Int → S3 → Option spec_l7Way.B2) (x0 : List S4) (x2 : Int) (x7 : Int) (b4 : S3) : Option spec_l7Way.B2 :=
  if (decide (x7 < (x0.length : Int))) = true then (if 0 ≤ x7 then (if x7 < (x0.length : Int) then (if 0 ≤ x7 then (if x7 < (x0.length : Int) then (if 0 ≤ x7 then (if x7 < (x0.length : Int) then (if (decide ((W (x2 * (W ((W ((W ((rd x0 x7).a * b4.x)) + (W ((rd x0 x7).b * b4.y)))) + (W ((rd x0 x7).c * b4.z)))))) < 0)) = true then (some (.inl ((false, ()), (())))) else (J x0 x2 (W (x7 + 1)) b4)) else none) else none) else none) else none) else none) else none) else (some (.inr ((()), (()))))
noncomputable def spec_l7Way.l2 (k : Nat)  : Nat → (List S4) → Int → Int → S3 → Option spec_l7Way.B2
  | 0, _, _, _, _ => none
  | n + 1, x0, x2, x7, b4 => spec_l7Way.s2 k (spec_l7Way.l2 k n) x0 x2 x7 b4
noncomputable def spec_l7Way.f (k : Nat) (a0 : List S4) (a1 : S3) (a2 : Int) : Option Bool :=
  (spec_l7Way.l2 k k a0 a2 0 a1).bind fun | .inl r1 => (some r1.1.1) | .inr x2 => (some true)
noncomputable def spec_l7Way.e (k : Nat) : FE := { α := (List S4) × S3 × Int × Unit, β := Bool, args := (lCons (aSl .s4) (lCons aS3 (lCons (aI .i64) lNil))), ret := (rOne aB), f := fun p => spec_l7Way.f k p.1 p.2.1 p.2.2.1 }
noncomputable def spec_l7Way.c (k : Nat) : List (Nat × CE) := []
noncomputable def spec_l7Way.bd : Code := match Tryz.f67.body with | some c => c | none => .skip
noncomputable def spec_l7Way.e2 (k : Nat) : LE := { H := spec_l7Way.H2, α := spec_l7Way.A2, β := spec_l7Way.B2, st := spec_l7Way.Z2, xt := spec_l7Way.X2, f := fun p => spec_l7Way.l2 k k p.1.1 p.1.2.1 p.1.2.2.2.1 p.2.1 }
noncomputable def spec_l7Way.g (k : Nat) : List (Nat × LE) := [(2, spec_l7Way.e2 k)]
theorem spec_l7Way.t2 (k : Nat) (I : S2 → Option spec_l7Way.B2) (x0 : List S4) (x2 : Int) (x7 : Int) (b4 : S3) : stepOf (mkCx Tryz.prog (spec_l7Way.c k) (spec_l7Way.g k) : Cx spec_l7Way.B2) (loopAt spec_l7Way.bd 0) spec_l7Way.H2 spec_l7Way.X2.dec I (spec_l7Way.Z2.enc ((x0, x2, (), x7, ()), (b4, ()))) = spec_l7Way.s2 k (fun x0 x2 x7 b4 => I (spec_l7Way.Z2.enc ((x0, x2, (), x7, ()), (b4, ())))) x0 x2 x7 b4 := by kernel_rfl
theorem spec_l7Way.i2 (k : Nat) : ∀ (n : Nat) (x0 : List S4) (x2 : Int) (x7 : Int) (b4 : S3), iter (evCode (mkCx Tryz.prog (spec_l7Way.c k) (spec_l7Way.g k) : Cx spec_l7Way.B2) (loopAt spec_l7Way.bd 0)) spec_l7Way.H2 spec_l7Way.X2.dec n (spec_l7Way.Z2.enc ((x0, x2, (), x7, ()), (b4, ()))) = spec_l7Way.l2 k n x0 x2 x7 b4
  | 0, _, _, _, _ => rfl
  | n + 1, x0, x2, x7, b4 => ((iter_step _ _ _ _ n _).trans (spec_l7Way.t2 k _ x0 x2 x7 b4)).trans (congrArg (fun J => spec_l7Way.s2 k J x0 x2 x7 b4) (funext fun x0 => funext fun x2 => funext fun x7 => funext fun b4 => spec_l7Way.i2 k n x0 x2 x7 b4))
theorem spec_l7Way.to2 (k : Nat) (hC : AllFun Tryz.prog (spec_l7Way.c k)) : LoopTo Tryz.prog 43 (spec_l7Way.e2 k) (loopAt spec_l7Way.bd 0) := loop_to mixed hC (by kernel_rfl) (loops_all 0 (by kernel_rfl) fun i hi => absurd hi (Nat.not_lt_zero i)) fun a b h => ⟨k, (spec_l7Way.i2 k k a.1.1 a.1.2.1 a.1.2.2.2.1 a.2.1).trans h⟩
theorem spec_l7Way.link (k : Nat) (a0 : List S4) (a1 : S3) (a2 : Int) : evFun (mkCx Tryz.prog (spec_l7Way.c k) (spec_l7Way.g k) : Cx Bool) Tryz.f67 ((spec_l7Way.e k).args.enc (a0, a1, a2, ())) (spec_l7Way.e k).ret.dec = spec_l7Way.f k a0 a1 a2 := by kernel_rfl
theorem spec_l7Way.ok1 (k : Nat) (hC : AllFun Tryz.prog (spec_l7Way.c k)) : Fun Tryz.prog 67 (spec_l7Way.e k).G := fun_ok mixed (body := spec_l7Way.bd) Tryz.func67 (by kernel_rfl) (by kernel_rfl) (by kernel_rfl) hC (loops_all 1 (by kernel_rfl) fun i hi => by obtain rfl : i = 0 := Nat.lt_one_iff.1 hi; exact ⟨spec_l7Way.e2 k, by kernel_rfl, spec_l7Way.to2 k hC⟩) (spec_l7Way.e k) (fun a => Nat.le_of_ble_eq_true (by kernel_rfl)) fun a b h => (spec_l7Way.link k a.1 a.2.1 a.2.2.1).trans h
theorem spec_l7Way.ok (k : Nat) : Fun Tryz.prog 67 (spec_l7Way.e k).G := spec_l7Way.ok1 k trivial

noncomputable def spec_l7Bounded.H7 : Hd := ⟨[], [0, 3, 4], [], [], []⟩
@[reducible] def spec_l7Bounded.A7 : Type := (((List S4) × Int × Int × Unit) × (Unit))
noncomputable def spec_l7Bounded.Z7 : SC spec_l7Bounded.A7 := sC spec_l7Bounded.H7 (eCons 0 (tP (aSl .s4)) (eCons 3 (tP (aI .i64)) (eCons 4 (tP (aI .i64)) eNil))) bNil
@[reducible] def spec_l7Bounded.B7 : Type := ((Bool × Unit) × (Unit)) ⊕ (((List S4) × Int × Unit) × (Unit))
noncomputable def spec_l7Bounded.X7 : XC spec_l7Bounded.B7 := xOr (xRet (sC ⟨[], [2], [], [], []⟩ (eCons 2 (tP aB) eNil) bNil)) (xExit 2 (sC ⟨[], [0, 3], [], [], []⟩ (eCons 0 (tP (aSl .s4)) (eCons 3 (tP (aI .i64)) eNil)) bNil))
noncomputable def spec_l7Bounded.s7 (k : Nat)  (J : (List S4) → Int → Int → Option spec_l7Bounded.B7) (x0 : List S4) (x3 : Int) (x4 : Int) : Option spec_l7Bounded.B7 :=
  if (decide (x4 < (x0.length : Int))) = true then (if 0 ≤ x3 then (if x3 < (x0.length : Int) then (if 0 ≤ x4 then (if x4 < (x0.length : Int) then ((spec_l4Cross.f k  (rd x0 x3) (rd x0 x4)).bind fun t2 => if (!((t2.x == 0) && ((t2.y == 0) && (t2.z == 0)))) = true then ((spec_l7Way.f k  x0 t2 1).bind fun t3 => if t3 = true then (some (.inl ((false, ()), (())))) else ((spec_l7Way.f k  x0 t2 (-1)).bind fun t4 => if t4 = true then (some (.inl ((false, ()), (())))) else (J x0 x3 (W (x4 + 1))))) else (J x0 x3 (W (x4 + 1)))) else none) else none) else none) else none) else (some (.inr ((x0, x3, ()), (()))))
noncomputable def spec_l7Bounded.l7 (k : Nat)  : Nat → (List S4) → Int → Int → Option spec_l7Bounded.B7
  | 0, _, _, _ => none
  | n + 1, x0, x3, x4 => spec_l7Bounded.s7 k (spec_l7Bounded.l7 k n) x0 x3 x4
noncomputable def spec_l7Bounded.H4 : Hd := ⟨[], [0, 3], [], [], []⟩
@[reducible] def spec_l7Bounded.A4 : Type := (((List S4) × Int × Unit) × (Unit))
noncomputable def spec_l7Bounded.Z4 : SC spec_l7Bounded.A4 := sC spec_l7Bounded.H4 (eCons 0 (tP (aSl .s4)) (eCons 3 (tP (aI .i64)) eNil)) bNil
@[reducible] def spec_l7Bounded.B4 : Type := ((Bool × Unit) × (Unit)) ⊕ ((Unit) × (Unit))
noncomputable def spec_l7Bounded.X4 : XC spec_l7Bounded.B4 := xOr (xRet (sC ⟨[], [2], [], [], []⟩ (eCons 2 (tP aB) eNil) bNil)) (xExit 0 (sC ⟨[], [], [], [], []⟩ eNil bNil))
noncomputable def spec_l7Bounded.s4 (k : Nat)  (J : (List S4) → Int → Option spec_l7Bounded.B4) (x0 : List S4) (x3 : Int) : Option spec_l7Bounded.B4 :=
  if (decide (x3 < (x0.length : Int))) = true then ((spec_l7Bounded.l7 k k x0 x3 (W (x3 + 1))).bind fun | .inl r5 => (some (.inl ((r5.1.1, ()), (())))) | .inr x6 => (J x6.1.1 (W (x6.1.2.1 + 1)))) else (some (.inr ((()), (()))))
noncomputable def spec_l7Bounded.l4 (k : Nat)  : Nat → (List S4) → Int → Option spec_l7Bounded.B4
  | 0, _, _ => none
  | n + 1, x0, x3 => spec_l7Bounded.s4 k (spec_l7Bounded.l4 k n) x0 x3
noncomputable def spec_l7Bounded.f (k : Nat) (a0 : List S4) : Option Bool :=
  (spec_l4Rank.f k  a0).bind fun t1 => if (decide (t1 < 3)) = true then (some false) else ((spec_l7Bounded.l4 k k a0 0).bind fun | .inl r7 => (some r7.1.1) | .inr x8 => (some true))
noncomputable def spec_l7Bounded.e (k : Nat) : FE := { α := (List S4) × Unit, β := Bool, args := (lCons (aSl .s4) lNil), ret := (rOne aB), f := fun p => spec_l7Bounded.f k p.1 }
noncomputable def spec_l7Bounded.c (k : Nat) : List (Nat × CE) := [(65, .fn (spec_l4Rank.e k)), (66, .fn (spec_l4Cross.e k)), (67, .fn (spec_l7Way.e k))]
noncomputable def spec_l7Bounded.bd : Code := match Tryz.f33.body with | some c => c | none => .skip
noncomputable def spec_l7Bounded.e7 (k : Nat) : LE := { H := spec_l7Bounded.H7, α := spec_l7Bounded.A7, β := spec_l7Bounded.B7, st := spec_l7Bounded.Z7, xt := spec_l7Bounded.X7, f := fun p => spec_l7Bounded.l7 k k p.1.1 p.1.2.1 p.1.2.2.1 }
noncomputable def spec_l7Bounded.e4 (k : Nat) : LE := { H := spec_l7Bounded.H4, α := spec_l7Bounded.A4, β := spec_l7Bounded.B4, st := spec_l7Bounded.Z4, xt := spec_l7Bounded.X4, f := fun p => spec_l7Bounded.l4 k k p.1.1 p.1.2.1 }
noncomputable def spec_l7Bounded.g (k : Nat) : List (Nat × LE) := [(7, spec_l7Bounded.e7 k), (4, spec_l7Bounded.e4 k)]
theorem spec_l7Bounded.t7 (k : Nat) (I : S2 → Option spec_l7Bounded.B7) (x0 : List S4) (x3 : Int) (x4 : Int) : stepOf (mkCx Tryz.prog (spec_l7Bounded.c k) (spec_l7Bounded.g k) : Cx spec_l7Bounded.B7) (loopAt (loopAt spec_l7Bounded.bd 0) 0) spec_l7Bounded.H7 spec_l7Bounded.X7.dec I (spec_l7Bounded.Z7.enc ((x0, x3, x4, ()), (()))) = spec_l7Bounded.s7 k (fun x0 x3 x4 => I (spec_l7Bounded.Z7.enc ((x0, x3, x4, ()), (())))) x0 x3 x4 := by kernel_rfl
theorem spec_l7Bounded.i7 (k : Nat) : ∀ (n : Nat) (x0 : List S4) (x3 : Int) (x4 : Int), iter (evCode (mkCx Tryz.prog (spec_l7Bounded.c k) (spec_l7Bounded.g k) : Cx spec_l7Bounded.B7) (loopAt (loopAt spec_l7Bounded.bd 0) 0)) spec_l7Bounded.H7 spec_l7Bounded.X7.dec n (spec_l7Bounded.Z7.enc ((x0, x3, x4, ()), (()))) = spec_l7Bounded.l7 k n x0 x3 x4
  | 0, _, _, _ => rfl
  | n + 1, x0, x3, x4 => ((iter_step _ _ _ _ n _).trans (spec_l7Bounded.t7 k _ x0 x3 x4)).trans (congrArg (fun J => spec_l7Bounded.s7 k J x0 x3 x4) (funext fun x0 => funext fun x3 => funext fun x4 => spec_l7Bounded.i7 k n x0 x3 x4))
theorem spec_l7Bounded.t4 (k : Nat) (I : S2 → Option spec_l7Bounded.B4) (x0 : List S4) (x3 : Int) : stepOf (mkCx Tryz.prog (spec_l7Bounded.c k) (spec_l7Bounded.g k) : Cx spec_l7Bounded.B4) (loopAt spec_l7Bounded.bd 0) spec_l7Bounded.H4 spec_l7Bounded.X4.dec I (spec_l7Bounded.Z4.enc ((x0, x3, ()), (()))) = spec_l7Bounded.s4 k (fun x0 x3 => I (spec_l7Bounded.Z4.enc ((x0, x3, ()), (())))) x0 x3 := by kernel_rfl
theorem spec_l7Bounded.i4 (k : Nat) : ∀ (n : Nat) (x0 : List S4) (x3 : Int), iter (evCode (mkCx Tryz.prog (spec_l7Bounded.c k) (spec_l7Bounded.g k) : Cx spec_l7Bounded.B4) (loopAt spec_l7Bounded.bd 0)) spec_l7Bounded.H4 spec_l7Bounded.X4.dec n (spec_l7Bounded.Z4.enc ((x0, x3, ()), (()))) = spec_l7Bounded.l4 k n x0 x3
  | 0, _, _ => rfl
  | n + 1, x0, x3 => ((iter_step _ _ _ _ n _).trans (spec_l7Bounded.t4 k _ x0 x3)).trans (congrArg (fun J => spec_l7Bounded.s4 k J x0 x3) (funext fun x0 => funext fun x3 => spec_l7Bounded.i4 k n x0 x3))
theorem spec_l7Bounded.to7 (k : Nat) (hC : AllFun Tryz.prog (spec_l7Bounded.c k)) : LoopTo Tryz.prog 45 (spec_l7Bounded.e7 k) (loopAt (loopAt spec_l7Bounded.bd 0) 0) := loop_to mixed hC (by kernel_rfl) (loops_all 0 (by kernel_rfl) fun i hi => absurd hi (Nat.not_lt_zero i)) fun a b h => ⟨k, (spec_l7Bounded.i7 k k a.1.1 a.1.2.1 a.1.2.2.1).trans h⟩
theorem spec_l7Bounded.to4 (k : Nat) (hC : AllFun Tryz.prog (spec_l7Bounded.c k)) : LoopTo Tryz.prog 45 (spec_l7Bounded.e4 k) (loopAt spec_l7Bounded.bd 0) := loop_to mixed hC (by kernel_rfl) (loops_all 1 (by kernel_rfl) fun i hi => by obtain rfl : i = 0 := Nat.lt_one_iff.1 hi; exact ⟨spec_l7Bounded.e7 k, by kernel_rfl, spec_l7Bounded.to7 k hC⟩) fun a b h => ⟨k, (spec_l7Bounded.i4 k k a.1.1 a.1.2.1).trans h⟩
theorem spec_l7Bounded.link (k : Nat) (a0 : List S4) : evFun (mkCx Tryz.prog (spec_l7Bounded.c k) (spec_l7Bounded.g k) : Cx Bool) Tryz.f33 ((spec_l7Bounded.e k).args.enc (a0, ())) (spec_l7Bounded.e k).ret.dec = spec_l7Bounded.f k a0 := by kernel_rfl
theorem spec_l7Bounded.ok1 (k : Nat) (hC : AllFun Tryz.prog (spec_l7Bounded.c k)) : Fun Tryz.prog 33 (spec_l7Bounded.e k).G := fun_ok mixed (body := spec_l7Bounded.bd) Tryz.func33 (by kernel_rfl) (by kernel_rfl) (by kernel_rfl) hC (loops_all 1 (by kernel_rfl) fun i hi => by obtain rfl : i = 0 := Nat.lt_one_iff.1 hi; exact ⟨spec_l7Bounded.e4 k, by kernel_rfl, spec_l7Bounded.to4 k hC⟩) (spec_l7Bounded.e k) (fun a => Nat.le_of_ble_eq_true (by kernel_rfl)) fun a b h => (spec_l7Bounded.link k a.1).trans h
theorem spec_l7Bounded.ok (k : Nat) : Fun Tryz.prog 33 (spec_l7Bounded.e k).G := spec_l7Bounded.ok1 k ⟨spec_l4Rank.ok k, spec_l4Cross.ok k, spec_l7Way.ok k, trivial⟩

noncomputable def spec_Bounded.f (k : Nat) (a0 : List S4) : Option Bool :=
  (spec_Open.f k  a0).bind fun t1 => if t1 = true then ((spec_l7Bounded.f k  a0).bind fun t2 => some t2) else (some false)
noncomputable def spec_Bounded.e (k : Nat) : FE := { α := (List S4) × Unit, β := Bool, args := (lCons (aSl .s4) lNil), ret := (rOne aB), f := fun p => spec_Bounded.f k p.1 }
noncomputable def spec_Bounded.c (k : Nat) : List (Nat × CE) := [(20, .fn (spec_Open.e k)), (33, .fn (spec_l7Bounded.e k))]
noncomputable def spec_Bounded.bd : Code := match Tryz.f15.body with | some c => c | none => .skip
noncomputable def spec_Bounded.g (k : Nat) : List (Nat × LE) := []
theorem spec_Bounded.link (k : Nat) (a0 : List S4) : evFun (mkCx Tryz.prog (spec_Bounded.c k) (spec_Bounded.g k) : Cx Bool) Tryz.f15 ((spec_Bounded.e k).args.enc (a0, ())) (spec_Bounded.e k).ret.dec = spec_Bounded.f k a0 := by kernel_rfl
theorem spec_Bounded.ok1 (k : Nat) (hC : AllFun Tryz.prog (spec_Bounded.c k)) : Fun Tryz.prog 15 (spec_Bounded.e k).G := fun_ok mixed (body := spec_Bounded.bd) Tryz.func15 (by kernel_rfl) (by kernel_rfl) (by kernel_rfl) hC (loops_all 0 (by kernel_rfl) fun i hi => absurd hi (Nat.not_lt_zero i)) (spec_Bounded.e k) (fun a => Nat.le_of_ble_eq_true (by kernel_rfl)) fun a b h => (spec_Bounded.link k a.1).trans h
theorem spec_Bounded.ok (k : Nat) : Fun Tryz.prog 15 (spec_Bounded.e k).G := spec_Bounded.ok1 k ⟨spec_Open.ok k, spec_l7Bounded.ok k, trivial⟩

noncomputable def laws_FnEuler.H17 : Hd := ⟨[], [5, 6, 7, 8, 9, 10], [], [], []⟩
@[reducible] def laws_FnEuler.A17 : Type := ((Unit × Unit × Unit × Int × Int × Int × Unit) × ((List I2) × (List S4) × (List Int) × Unit))
noncomputable def laws_FnEuler.Z17 : SC laws_FnEuler.A17 := sC laws_FnEuler.H17 (eCons 5 (tOsl 1000005) (eCons 6 (tOsl 1000006) (eCons 7 (tOsl 1000007) (eCons 8 (tP (aI .i64)) (eCons 9 (tP (aI .i64)) (eCons 10 (tP (aI .i64)) eNil)))))) (bCons 1000005 (xRow 41 .i2) (bCons 1000006 (xRow 31 .s4) (bCons 1000007 (xRow 3 (.i .i64)) bNil)))
@[reducible] def laws_FnEuler.B17 : Type := ((Unit × Unit × Unit × Int × Int × Unit) × ((List I2) × (List S4) × (List Int) × Unit))
noncomputable def laws_FnEuler.X17 : XC laws_FnEuler.B17 := xExit 2 (sC ⟨[], [5, 6, 7, 8, 9], [], [], []⟩ (eCons 5 (tOsl 1000005) (eCons 6 (tOsl 1000006) (eCons 7 (tOsl 1000007) (eCons 8 (tP (aI .i64)) (eCons 9 (tP (aI .i64)) eNil))))) (bCons 1000005 (xRow 41 .i2) (bCons 1000006 (xRow 31 .s4) (bCons 1000007 (xRow 3 (.i .i64)) bNil))))
noncomputable def laws_FnEuler.s17 (k : Nat)  (J : Int → Int → Int → (List I2) → (List S4) → (List Int) → Option laws_FnEuler.B17) (x8 : Int) (x9 : Int) (x10 : Int) (b1000005 : List I2) (b1000006 : List S4) (b1000007 : List Int) : Option laws_FnEuler.B17 :=
  if (decide (x10 < (b1000005.length : Int))) = true then (if 0 ≤ x10 then (if x10 < (b1000005.length : Int) then (if x10.toNat < b1000005.length then (if ((b1000005.getD x10.toNat default).x == x8) = true then (J x8 (W (x9 + 1)) (W (x10 + 1)) b1000005 b1000006 b1000007) else (if 0 ≤ x10 then (if x10 < (b1000005.length : Int) then (if x10.toNat < b1000005.length then (if ((b1000005.getD x10.toNat default).y == x8) = true then (J x8 (W (x9 + 1)) (W (x10 + 1)) b1000005 b1000006 b1000007) else (J x8 x9 (W (x10 + 1)) b1000005 b1000006 b1000007)) else none) else none) else none)) else none) else none) else none) else (some (((), (), (), x8, x9, ()), (b1000005, b1000006, b1000007, ())))
noncomputable def laws_FnEuler.l17 (k : Nat)  : Nat → Int → Int → Int → (List I2) → (List S4) → (List Int) → Option laws_FnEuler.B17
  | 0, _, _, _, _, _, _ => none
  | n + 1, x8, x9, x10, b1000005, b1000006, b1000007 => laws_FnEuler.s17 k (laws_FnEuler.l17 k n) x8 x9 x10 b1000005 b1000006 b1000007
noncomputable def laws_FnEuler.H13 : Hd := ⟨[], [5, 6, 7, 8], [], [], []⟩
@[reducible] def laws_FnEuler.A13 : Type := ((Unit × Unit × Unit × Int × Unit) × ((List I2) × (List S4) × (List Int) × Unit))
noncomputable def laws_FnEuler.Z13 : SC laws_FnEuler.A13 := sC laws_FnEuler.H13 (eCons 5 (tOsl 1000005) (eCons 6 (tOsl 1000006) (eCons 7 (tOsl 1000007) (eCons 8 (tP (aI .i64)) eNil)))) (bCons 1000005 (xRow 41 .i2) (bCons 1000006 (xRow 31 .s4) (bCons 1000007 (xRow 3 (.i .i64)) bNil)))
@[reducible] def laws_FnEuler.B13 : Type := ((Bool × Unit) × (Unit)) ⊕ ((Unit × Unit × Unit × Unit) × ((List I2) × (List S4) × (List Int) × Unit))
noncomputable def laws_FnEuler.X13 : XC laws_FnEuler.B13 := xOr (xRet (sC ⟨[], [2], [], [], []⟩ (eCons 2 (tP aB) eNil) bNil)) (xExit 0 (sC ⟨[], [5, 6, 7], [], [], []⟩ (eCons 5 (tOsl 1000005) (eCons 6 (tOsl 1000006) (eCons 7 (tOsl 1000007) eNil))) (bCons 1000005 (xRow 41 .i2) (bCons 1000006 (xRow 31 .s4) (bCons 1000007 (xRow 3 (.i .i64)) bNil)))))
noncomputable def laws_FnEuler.s13 (k : Nat)  (J : Int → (List I2) → (List S4) → (List Int) → Option laws_FnEuler.B13) (x8 : Int) (b1000005 : List I2) (b1000006 : List S4) (b1000007 : List Int) : Option laws_FnEuler.B13 :=
  if (decide (x8 < (b1000006.length : Int))) = true then ((laws_FnEuler.l17 k k x8 0 0 b1000005 b1000006 b1000007).bind fun x8 => if (decide (x8.1.2.2.2.2.1 < 3)) = true then (some (.inl ((false, ()), (())))) else (J (W (x8.1.2.2.2.1 + 1)) x8.2.1 x8.2.2.1 x8.2.2.2.1)) else (some (.inr (((), (), (), ()), (b1000005, b1000006, b1000007, ()))))
noncomputable def laws_FnEuler.l13 (k : Nat)  : Nat → Int → (List I2) → (List S4) → (List Int) → Option laws_FnEuler.B13
  | 0, _, _, _, _ => none
  | n + 1, x8, b1000005, b1000006, b1000007 => laws_FnEuler.s13 k (laws_FnEuler.l13 k n) x8 b1000005 b1000006 b1000007
noncomputable def laws_FnEuler.f (k : Nat) (a0 : List Int) : Option Bool :=
  (laws_big.f k  a0).bind fun t1 => if t1 = true then (some true) else ((spec_DrawCell.f k  a0).bind fun t2 => (impl_Bounded.f k  t2).bind fun t3 => (impl_EdgesOf.f k  t2).bind fun t4 => (spec_Bounded.f k  t2).bind fun t5 => if (!(t3 == t5)) = true then (some false) else (if (!t3) = true then (some ((t4.length : Int) == 0)) else ((impl_Corners.f k  t2).bind fun t6 => (impl_Needed.f k  t2).bind fun t7 => (laws_FnEuler.l13 k k 0 t4 t6 t7).bind fun | .inl r9 => (some r9.1.1) | .inr x10 => (if ((W ((x10.2.2.1.length : Int) + (x10.2.2.2.1.length : Int))) == (W ((x10.2.1.length : Int) + 2))) = true then (some (decide ((x10.2.2.2.1.length : Int) ≥ 4))) else (some false)))))
noncomputable def laws_FnEuler.e (k : Nat) : FE := { α := (List Int) × Unit, β := Bool, args := (lCons (aSl (.i .u8)) lNil), ret := (rOne aB), f := fun p => laws_FnEuler.f k p.1 }
noncomputable def laws_FnEuler.c (k : Nat) : List (Nat × CE) := [(5, .fn (laws_big.e k)), (6, .fn (spec_DrawCell.e k)), (12, .fn (impl_Bounded.e k)), (14, .fn (impl_EdgesOf.e k)), (15, .fn (spec_Bounded.e k)), (13, .fn (impl_Corners.e k)), (7, .fn (impl_Needed.e k))]
noncomputable def laws_FnEuler.bd : Code := match Tryz.f4.body with | some c => c | none => .skip
noncomputable def laws_FnEuler.e17 (k : Nat) : LE := { H := laws_FnEuler.H17, α := laws_FnEuler.A17, β := laws_FnEuler.B17, st := laws_FnEuler.Z17, xt := laws_FnEuler.X17, f := fun p => laws_FnEuler.l17 k k p.1.2.2.2.1 p.1.2.2.2.2.1 p.1.2.2.2.2.2.1 p.2.1 p.2.2.1 p.2.2.2.1 }
noncomputable def laws_FnEuler.e13 (k : Nat) : LE := { H := laws_FnEuler.H13, α := laws_FnEuler.A13, β := laws_FnEuler.B13, st := laws_FnEuler.Z13, xt := laws_FnEuler.X13, f := fun p => laws_FnEuler.l13 k k p.1.2.2.2.1 p.2.1 p.2.2.1 p.2.2.2.1 }
noncomputable def laws_FnEuler.g (k : Nat) : List (Nat × LE) := [(17, laws_FnEuler.e17 k), (13, laws_FnEuler.e13 k)]
theorem laws_FnEuler.t17 (k : Nat) (I : S2 → Option laws_FnEuler.B17) (x8 : Int) (x9 : Int) (x10 : Int) (b1000005 : List I2) (b1000006 : List S4) (b1000007 : List Int) : stepOf (mkCx Tryz.prog (laws_FnEuler.c k) (laws_FnEuler.g k) : Cx laws_FnEuler.B17) (loopAt (loopAt laws_FnEuler.bd 0) 0) laws_FnEuler.H17 laws_FnEuler.X17.dec I (laws_FnEuler.Z17.enc (((), (), (), x8, x9, x10, ()), (b1000005, b1000006, b1000007, ()))) = laws_FnEuler.s17 k (fun x8 x9 x10 b1000005 b1000006 b1000007 => I (laws_FnEuler.Z17.enc (((), (), (), x8, x9, x10, ()), (b1000005, b1000006, b1000007, ())))) x8 x9 x10 b1000005 b1000006 b1000007 := by kernel_rfl
theorem laws_FnEuler.i17 (k : Nat) : ∀ (n : Nat) (x8 : Int) (x9 : Int) (x10 : Int) (b1000005 : List I2) (b1000006 : List S4) (b1000007 : List Int), iter (evCode (mkCx Tryz.prog (laws_FnEuler.c k) (laws_FnEuler.g k) : Cx laws_FnEuler.B17) (loopAt (loopAt laws_FnEuler.bd 0) 0)) laws_FnEuler.H17 laws_FnEuler.X17.dec n (laws_FnEuler.Z17.enc (((), (), (), x8, x9, x10, ()), (b1000005, b1000006, b1000007, ()))) = laws_FnEuler.l17 k n x8 x9 x10 b1000005 b1000006 b1000007
  | 0, _, _, _, _, _, _ => rfl
  | n + 1, x8, x9, x10, b1000005, b1000006, b1000007 => ((iter_step _ _ _ _ n _).trans (laws_FnEuler.t17 k _ x8 x9 x10 b1000005 b1000006 b1000007)).trans (congrArg (fun J => laws_FnEuler.s17 k J x8 x9 x10 b1000005 b1000006 b1000007) (funext fun x8 => funext fun x9 => funext fun x10 => funext fun b1000005 => funext fun b1000006 => funext fun b1000007 => laws_FnEuler.i17 k n x8 x9 x10 b1000005 b1000006 b1000007))
theorem laws_FnEuler.t13 (k : Nat) (I : S2 → Option laws_FnEuler.B13) (x8 : Int) (b1000005 : List I2) (b1000006 : List S4) (b1000007 : List Int) : stepOf (mkCx Tryz.prog (laws_FnEuler.c k) (laws_FnEuler.g k) : Cx laws_FnEuler.B13) (loopAt laws_FnEuler.bd 0) laws_FnEuler.H13 laws_FnEuler.X13.dec I (laws_FnEuler.Z13.enc (((), (), (), x8, ()), (b1000005, b1000006, b1000007, ()))) = laws_FnEuler.s13 k (fun x8 b1000005 b1000006 b1000007 => I (laws_FnEuler.Z13.enc (((), (), (), x8, ()), (b1000005, b1000006, b1000007, ())))) x8 b1000005 b1000006 b1000007 := by kernel_rfl
theorem laws_FnEuler.i13 (k : Nat) : ∀ (n : Nat) (x8 : Int) (b1000005 : List I2) (b1000006 : List S4) (b1000007 : List Int), iter (evCode (mkCx Tryz.prog (laws_FnEuler.c k) (laws_FnEuler.g k) : Cx laws_FnEuler.B13) (loopAt laws_FnEuler.bd 0)) laws_FnEuler.H13 laws_FnEuler.X13.dec n (laws_FnEuler.Z13.enc (((), (), (), x8, ()), (b1000005, b1000006, b1000007, ()))) = laws_FnEuler.l13 k n x8 b1000005 b1000006 b1000007
  | 0, _, _, _, _ => rfl
  | n + 1, x8, b1000005, b1000006, b1000007 => ((iter_step _ _ _ _ n _).trans (laws_FnEuler.t13 k _ x8 b1000005 b1000006 b1000007)).trans (congrArg (fun J => laws_FnEuler.s13 k J x8 b1000005 b1000006 b1000007) (funext fun x8 => funext fun b1000005 => funext fun b1000006 => funext fun b1000007 => laws_FnEuler.i13 k n x8 b1000005 b1000006 b1000007))
theorem laws_FnEuler.to17 (k : Nat) (hC : AllFun Tryz.prog (laws_FnEuler.c k)) : LoopTo Tryz.prog 78 (laws_FnEuler.e17 k) (loopAt (loopAt laws_FnEuler.bd 0) 0) := loop_to mixed hC (by kernel_rfl) (loops_all 0 (by kernel_rfl) fun i hi => absurd hi (Nat.not_lt_zero i)) fun a b h => ⟨k, (laws_FnEuler.i17 k k a.1.2.2.2.1 a.1.2.2.2.2.1 a.1.2.2.2.2.2.1 a.2.1 a.2.2.1 a.2.2.2.1).trans h⟩
theorem laws_FnEuler.to13 (k : Nat) (hC : AllFun Tryz.prog (laws_FnEuler.c k)) : LoopTo Tryz.prog 78 (laws_FnEuler.e13 k) (loopAt laws_FnEuler.bd 0) := loop_to mixed hC (by kernel_rfl) (loops_all 1 (by kernel_rfl) fun i hi => by obtain rfl : i = 0 := Nat.lt_one_iff.1 hi; exact ⟨laws_FnEuler.e17 k, by kernel_rfl, laws_FnEuler.to17 k hC⟩) fun a b h => ⟨k, (laws_FnEuler.i13 k k a.1.2.2.2.1 a.2.1 a.2.2.1 a.2.2.2.1).trans h⟩
theorem laws_FnEuler.link (k : Nat) (a0 : List Int) : evFun (mkCx Tryz.prog (laws_FnEuler.c k) (laws_FnEuler.g k) : Cx Bool) Tryz.f4 ((laws_FnEuler.e k).args.enc (a0, ())) (laws_FnEuler.e k).ret.dec = laws_FnEuler.f k a0 := by kernel_rfl
theorem laws_FnEuler.ok1 (k : Nat) (hC : AllFun Tryz.prog (laws_FnEuler.c k)) : Fun Tryz.prog 4 (laws_FnEuler.e k).G := fun_ok mixed (body := laws_FnEuler.bd) Tryz.func4 (by kernel_rfl) (by kernel_rfl) (by kernel_rfl) hC (loops_all 1 (by kernel_rfl) fun i hi => by obtain rfl : i = 0 := Nat.lt_one_iff.1 hi; exact ⟨laws_FnEuler.e13 k, by kernel_rfl, laws_FnEuler.to13 k hC⟩) (laws_FnEuler.e k) (fun a => Nat.le_of_ble_eq_true (by kernel_rfl)) fun a b h => (laws_FnEuler.link k a.1).trans h
theorem laws_FnEuler.ok (k : Nat) : Fun Tryz.prog 4 (laws_FnEuler.e k).G := laws_FnEuler.ok1 k ⟨laws_big.ok k, spec_DrawCell.ok k, impl_Bounded.ok k, impl_EdgesOf.ok k, spec_Bounded.ok k, impl_Corners.ok k, impl_Needed.ok k, trivial⟩

end Go.Proofs.YtalkkenkeilmpaaGreat.G
