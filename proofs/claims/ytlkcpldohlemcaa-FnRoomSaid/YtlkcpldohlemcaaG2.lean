/- Go functions told as plain Lean functions; that the code does what these tell. Printed by a program of the session (evp.py). -/
import Derived.Test.YtlkcpldohlemcaaEv16
import Derived.Test.YtlkcpldohlemcaaG1
namespace Go.Proofs.Ytlkcpldohlemcaa.G
open Go Go.RowKit Go.Proofs Go.Proofs.Ytlkcpldohlemcaa.Ev
set_option linter.unusedVariables false
set_option maxRecDepth 100000

noncomputable def impl_isCoef.f (k : Nat) (a0 : Int) : Option Bool :=
  (impl_inRange.f k  a0 (-500) 500).bind fun t1 => some t1
noncomputable def impl_isCoef.e (k : Nat) : FE := { α := Int × Unit, β := Bool, args := (lCons (aI .i64) lNil), ret := (rOne aB), f := fun p => impl_isCoef.f k p.1 }
noncomputable def impl_isCoef.c (k : Nat) : List (Nat × CE) := [(126, .fn (impl_inRange.e k))]
noncomputable def impl_isCoef.bd : Code := match Try.f123.body with | some c => c | none => .skip
noncomputable def impl_isCoef.g (k : Nat) : List (Nat × LE) := []
theorem impl_isCoef.link (k : Nat) (a0 : Int) : evFun (mkCx Try.prog (impl_isCoef.c k) (impl_isCoef.g k) : Cx Bool) Try.f123 ((impl_isCoef.e k).args.enc (a0, ())) (impl_isCoef.e k).ret.dec = impl_isCoef.f k a0 := by kernel_rfl
theorem impl_isCoef.ok1 (k : Nat) (hC : AllFun Try.prog (impl_isCoef.c k)) : Fun Try.prog 123 (impl_isCoef.e k).G := fun_ok mixed (body := impl_isCoef.bd) Try.func123 (by kernel_rfl) (by kernel_rfl) (by kernel_rfl) hC (loops_all 0 (by kernel_rfl) fun i hi => absurd hi (Nat.not_lt_zero i)) (impl_isCoef.e k) (fun a => Nat.le_of_ble_eq_true (by kernel_rfl)) fun a b h => (impl_isCoef.link k a.1).trans h
theorem impl_isCoef.ok (k : Nat) : Fun Try.prog 123 (impl_isCoef.e k).G := impl_isCoef.ok1 k ⟨impl_inRange.ok k, trivial⟩

noncomputable def impl_divisor.H6 : Hd := ⟨[], [3, 5, 6, 7, 8], [], []⟩
@[reducible] def impl_divisor.A6 : Type := ((Int × Int × (List Int) × Int × Int × Unit) × (Unit))
noncomputable def impl_divisor.Z6 : SC impl_divisor.A6 := sC impl_divisor.H6 (eCons 3 (tP (aI .i64)) (eCons 5 (tP (aI .i64)) (eCons 6 (tP (aSl (.i .i64))) (eCons 7 (tP (aI .i64)) (eCons 8 (tP (aI .i64)) eNil))))) bNil
@[reducible] def impl_divisor.B6 : Type := ((Int × (List Int) × Int × Int × Unit) × (Unit))
noncomputable def impl_divisor.X6 : XC impl_divisor.B6 := xExit 2 (sC ⟨[], [3, 6, 7, 8], [], []⟩ (eCons 3 (tP (aI .i64)) (eCons 6 (tP (aSl (.i .i64))) (eCons 7 (tP (aI .i64)) (eCons 8 (tP (aI .i64)) eNil)))) bNil)
noncomputable def impl_divisor.s6 (k : Nat)  (J : Int → Int → (List Int) → Int → Int → Option impl_divisor.B6) (x3 : Int) (x5 : Int) (x6 : List Int) (x7 : Int) (x8 : Int) : Option impl_divisor.B6 :=
  if (x5 != 0) = true then (if x5 = 0 then none else (J x5 (x3.tmod x5) x6 x7 x8)) else (some ((x3, x6, x7, x8, ()), (())))
noncomputable def impl_divisor.l6 (k : Nat)  : Nat → Int → Int → (List Int) → Int → Int → Option impl_divisor.B6
  | 0, _, _, _, _, _ => none
  | n + 1, x3, x5, x6, x7, x8 => impl_divisor.s6 k (impl_divisor.l6 k n) x3 x5 x6 x7 x8
noncomputable def impl_divisor.H3 : Hd := ⟨[], [3, 6, 7, 8], [], []⟩
@[reducible] def impl_divisor.A3 : Type := ((Int × (List Int) × Int × Int × Unit) × (Unit))
noncomputable def impl_divisor.Z3 : SC impl_divisor.A3 := sC impl_divisor.H3 (eCons 3 (tP (aI .i64)) (eCons 6 (tP (aSl (.i .i64))) (eCons 7 (tP (aI .i64)) (eCons 8 (tP (aI .i64)) eNil)))) bNil
@[reducible] def impl_divisor.B3 : Type := ((Int × Unit) × (Unit))
noncomputable def impl_divisor.X3 : XC impl_divisor.B3 := xExit 0 (sC ⟨[], [3], [], []⟩ (eCons 3 (tP (aI .i64)) eNil) bNil)
noncomputable def impl_divisor.s3 (k : Nat)  (J : Int → (List Int) → Int → Int → Option impl_divisor.B3) (x3 : Int) (x6 : List Int) (x7 : Int) (x8 : Int) : Option impl_divisor.B3 :=
  if (decide (x8 < x7)) = true then (if 0 ≤ x8 then (if x8 < (x6.length : Int) then ((impl_divisor.l6 k k x3 (if (W (0 - (rd x6 x8))) > (rd x6 x8) then (W (0 - (rd x6 x8))) else (rd x6 x8)) x6 x7 x8).bind fun x1 => J x1.1.1 x1.1.2.1 x1.1.2.2.1 (W (x1.1.2.2.2.1 + 1))) else none) else none) else (some ((x3, ()), (())))
noncomputable def impl_divisor.l3 (k : Nat)  : Nat → Int → (List Int) → Int → Int → Option impl_divisor.B3
  | 0, _, _, _, _ => none
  | n + 1, x3, x6, x7, x8 => impl_divisor.s3 k (impl_divisor.l3 k n) x3 x6 x7 x8
noncomputable def impl_divisor.f (k : Nat) (a0 : List Int) : Option Int :=
  (impl_divisor.l3 k k 0 a0 (a0.length : Int) 0).bind fun x2 => some x2.1.1
noncomputable def impl_divisor.e (k : Nat) : FE := { α := (List Int) × Unit, β := Int, args := (lCons (aSl (.i .i64)) lNil), ret := (rOne (aI .i64)), f := fun p => impl_divisor.f k p.1 }
noncomputable def impl_divisor.c (k : Nat) : List (Nat × CE) := []
noncomputable def impl_divisor.bd : Code := match Try.f143.body with | some c => c | none => .skip
noncomputable def impl_divisor.e6 (k : Nat) : LE := { H := impl_divisor.H6, α := impl_divisor.A6, β := impl_divisor.B6, st := impl_divisor.Z6, xt := impl_divisor.X6, f := fun p => impl_divisor.l6 k k p.1.1 p.1.2.1 p.1.2.2.1 p.1.2.2.2.1 p.1.2.2.2.2.1 }
noncomputable def impl_divisor.e3 (k : Nat) : LE := { H := impl_divisor.H3, α := impl_divisor.A3, β := impl_divisor.B3, st := impl_divisor.Z3, xt := impl_divisor.X3, f := fun p => impl_divisor.l3 k k p.1.1 p.1.2.1 p.1.2.2.1 p.1.2.2.2.1 }
noncomputable def impl_divisor.g (k : Nat) : List (Nat × LE) := [(6, impl_divisor.e6 k), (3, impl_divisor.e3 k)]
theorem impl_divisor.t6 (k : Nat) (I : S2 → Option impl_divisor.B6) (x3 : Int) (x5 : Int) (x6 : List Int) (x7 : Int) (x8 : Int) : stepOf (mkCx Try.prog (impl_divisor.c k) (impl_divisor.g k) : Cx impl_divisor.B6) (loopAt (loopAt impl_divisor.bd 0) 0) impl_divisor.H6 impl_divisor.X6.dec I (impl_divisor.Z6.enc ((x3, x5, x6, x7, x8, ()), (()))) = impl_divisor.s6 k (fun x3 x5 x6 x7 x8 => I (impl_divisor.Z6.enc ((x3, x5, x6, x7, x8, ()), (())))) x3 x5 x6 x7 x8 := by kernel_rfl
theorem impl_divisor.i6 (k : Nat) : ∀ (n : Nat) (x3 : Int) (x5 : Int) (x6 : List Int) (x7 : Int) (x8 : Int), iter (evCode (mkCx Try.prog (impl_divisor.c k) (impl_divisor.g k) : Cx impl_divisor.B6) (loopAt (loopAt impl_divisor.bd 0) 0)) impl_divisor.H6 impl_divisor.X6.dec n (impl_divisor.Z6.enc ((x3, x5, x6, x7, x8, ()), (()))) = impl_divisor.l6 k n x3 x5 x6 x7 x8
  | 0, _, _, _, _, _ => rfl
  | n + 1, x3, x5, x6, x7, x8 => ((iter_step _ _ _ _ n _).trans (impl_divisor.t6 k _ x3 x5 x6 x7 x8)).trans (congrArg (fun J => impl_divisor.s6 k J x3 x5 x6 x7 x8) (funext fun x3 => funext fun x5 => funext fun x6 => funext fun x7 => funext fun x8 => impl_divisor.i6 k n x3 x5 x6 x7 x8))
theorem impl_divisor.t3 (k : Nat) (I : S2 → Option impl_divisor.B3) (x3 : Int) (x6 : List Int) (x7 : Int) (x8 : Int) : stepOf (mkCx Try.prog (impl_divisor.c k) (impl_divisor.g k) : Cx impl_divisor.B3) (loopAt impl_divisor.bd 0) impl_divisor.H3 impl_divisor.X3.dec I (impl_divisor.Z3.enc ((x3, x6, x7, x8, ()), (()))) = impl_divisor.s3 k (fun x3 x6 x7 x8 => I (impl_divisor.Z3.enc ((x3, x6, x7, x8, ()), (())))) x3 x6 x7 x8 := by kernel_rfl
theorem impl_divisor.i3 (k : Nat) : ∀ (n : Nat) (x3 : Int) (x6 : List Int) (x7 : Int) (x8 : Int), iter (evCode (mkCx Try.prog (impl_divisor.c k) (impl_divisor.g k) : Cx impl_divisor.B3) (loopAt impl_divisor.bd 0)) impl_divisor.H3 impl_divisor.X3.dec n (impl_divisor.Z3.enc ((x3, x6, x7, x8, ()), (()))) = impl_divisor.l3 k n x3 x6 x7 x8
  | 0, _, _, _, _ => rfl
  | n + 1, x3, x6, x7, x8 => ((iter_step _ _ _ _ n _).trans (impl_divisor.t3 k _ x3 x6 x7 x8)).trans (congrArg (fun J => impl_divisor.s3 k J x3 x6 x7 x8) (funext fun x3 => funext fun x6 => funext fun x7 => funext fun x8 => impl_divisor.i3 k n x3 x6 x7 x8))
theorem impl_divisor.to6 (k : Nat) (hC : AllFun Try.prog (impl_divisor.c k)) : LoopTo Try.prog 24 (impl_divisor.e6 k) (loopAt (loopAt impl_divisor.bd 0) 0) := loop_to mixed hC (by kernel_rfl) (loops_all 0 (by kernel_rfl) fun i hi => absurd hi (Nat.not_lt_zero i)) fun a b h => ⟨k, (impl_divisor.i6 k k a.1.1 a.1.2.1 a.1.2.2.1 a.1.2.2.2.1 a.1.2.2.2.2.1).trans h⟩
theorem impl_divisor.to3 (k : Nat) (hC : AllFun Try.prog (impl_divisor.c k)) : LoopTo Try.prog 24 (impl_divisor.e3 k) (loopAt impl_divisor.bd 0) := loop_to mixed hC (by kernel_rfl) (loops_all 1 (by kernel_rfl) fun i hi => by obtain rfl : i = 0 := Nat.lt_one_iff.1 hi; exact ⟨impl_divisor.e6 k, by kernel_rfl, impl_divisor.to6 k hC⟩) fun a b h => ⟨k, (impl_divisor.i3 k k a.1.1 a.1.2.1 a.1.2.2.1 a.1.2.2.2.1).trans h⟩
theorem impl_divisor.link (k : Nat) (a0 : List Int) : evFun (mkCx Try.prog (impl_divisor.c k) (impl_divisor.g k) : Cx Int) Try.f143 ((impl_divisor.e k).args.enc (a0, ())) (impl_divisor.e k).ret.dec = impl_divisor.f k a0 := by kernel_rfl
theorem impl_divisor.ok1 (k : Nat) (hC : AllFun Try.prog (impl_divisor.c k)) : Fun Try.prog 143 (impl_divisor.e k).G := fun_ok mixed (body := impl_divisor.bd) Try.func143 (by kernel_rfl) (by kernel_rfl) (by kernel_rfl) hC (loops_all 1 (by kernel_rfl) fun i hi => by obtain rfl : i = 0 := Nat.lt_one_iff.1 hi; exact ⟨impl_divisor.e3 k, by kernel_rfl, impl_divisor.to3 k hC⟩) (impl_divisor.e k) (fun a => Nat.le_of_ble_eq_true (by kernel_rfl)) fun a b h => (impl_divisor.link k a.1).trans h
theorem impl_divisor.ok (k : Nat) : Fun Try.prog 143 (impl_divisor.e k).G := impl_divisor.ok1 k trivial

noncomputable def impl_PlaneOk.f (k : Nat) (a0 : S4) : Option Bool :=
  (impl_isCoef.f k  a0.a).bind fun t1 => if (!t1) = true then (some false) else ((impl_isCoef.f k  a0.b).bind fun t2 => if (!t2) = true then (some false) else ((impl_isCoef.f k  a0.c).bind fun t3 => if (!t3) = true then (some false) else ((impl_isCoef.f k  a0.d).bind fun t4 => if (!t4) = true then (some false) else (if (a0.a != 0) = true then ((impl_divisor.f k  ([a0.a, a0.b, a0.c, a0.d] : List Int)).bind fun t5 => some (t5 == 1)) else (if (a0.b != 0) = true then ((impl_divisor.f k  ([a0.a, a0.b, a0.c, a0.d] : List Int)).bind fun t6 => some (t6 == 1)) else (if (a0.c != 0) = true then ((impl_divisor.f k  ([a0.a, a0.b, a0.c, a0.d] : List Int)).bind fun t7 => some (t7 == 1)) else (some false)))))))
noncomputable def impl_PlaneOk.e (k : Nat) : FE := { α := S4 × Unit, β := Bool, args := (lCons aS4 lNil), ret := (rOne aB), f := fun p => impl_PlaneOk.f k p.1 }
noncomputable def impl_PlaneOk.c (k : Nat) : List (Nat × CE) := [(123, .fn (impl_isCoef.e k)), (143, .fn (impl_divisor.e k))]
noncomputable def impl_PlaneOk.bd : Code := match Try.f87.body with | some c => c | none => .skip
noncomputable def impl_PlaneOk.g (k : Nat) : List (Nat × LE) := []
theorem impl_PlaneOk.link (k : Nat) (a0 : S4) : evFun (mkCx Try.prog (impl_PlaneOk.c k) (impl_PlaneOk.g k) : Cx Bool) Try.f87 ((impl_PlaneOk.e k).args.enc (a0, ())) (impl_PlaneOk.e k).ret.dec = impl_PlaneOk.f k a0 := by kernel_rfl
theorem impl_PlaneOk.ok1 (k : Nat) (hC : AllFun Try.prog (impl_PlaneOk.c k)) : Fun Try.prog 87 (impl_PlaneOk.e k).G := fun_ok mixed (body := impl_PlaneOk.bd) Try.func87 (by kernel_rfl) (by kernel_rfl) (by kernel_rfl) hC (loops_all 0 (by kernel_rfl) fun i hi => absurd hi (Nat.not_lt_zero i)) (impl_PlaneOk.e k) (fun a => Nat.le_of_ble_eq_true (by kernel_rfl)) fun a b h => (impl_PlaneOk.link k a.1).trans h
theorem impl_PlaneOk.ok (k : Nat) : Fun Try.prog 87 (impl_PlaneOk.e k).G := impl_PlaneOk.ok1 k ⟨impl_isCoef.ok k, impl_divisor.ok k, trivial⟩

noncomputable def impl_Shifted.f (k : Nat) (a0 : S4) (a1 : S3) : Option (S4 × Int × Unit) :=
  (impl_PlaneOk.f k  a0).bind fun t1 => if (!t1) = true then (some ((⟨0, 0, 0, 0⟩ : S4), 1, ())) else ((impl_PtOk.f k  a1).bind fun t2 => if (!t2) = true then (some ((⟨0, 0, 0, 0⟩ : S4), 1, ())) else ((impl_isCoef.f k  (W (a0.d - (W ((W ((W (a0.a * a1.x)) + (W (a0.b * a1.y)))) + (W (a0.c * a1.z))))))).bind fun t3 => if (!t3) = true then (some ((⟨0, 0, 0, 0⟩ : S4), 2, ())) else (some ((⟨a0.a, a0.b, a0.c, (W (a0.d - (W ((W ((W (a0.a * a1.x)) + (W (a0.b * a1.y)))) + (W (a0.c * a1.z))))))⟩ : S4), 0, ()))))
noncomputable def impl_Shifted.e (k : Nat) : FE := { α := S4 × S3 × Unit, β := (S4 × Int × Unit), args := (lCons aS4 (lCons aS3 lNil)), ret := (rMany (lCons aS4 (lCons (aI .i64) lNil))), f := fun p => impl_Shifted.f k p.1 p.2.1 }
noncomputable def impl_Shifted.c (k : Nat) : List (Nat × CE) := [(87, .fn (impl_PlaneOk.e k)), (58, .fn (impl_PtOk.e k)), (123, .fn (impl_isCoef.e k))]
noncomputable def impl_Shifted.bd : Code := match Try.f55.body with | some c => c | none => .skip
noncomputable def impl_Shifted.g (k : Nat) : List (Nat × LE) := []
theorem impl_Shifted.link (k : Nat) (a0 : S4) (a1 : S3) : evFun (mkCx Try.prog (impl_Shifted.c k) (impl_Shifted.g k) : Cx (S4 × Int × Unit)) Try.f55 ((impl_Shifted.e k).args.enc (a0, a1, ())) (impl_Shifted.e k).ret.dec = impl_Shifted.f k a0 a1 := by kernel_rfl
theorem impl_Shifted.ok1 (k : Nat) (hC : AllFun Try.prog (impl_Shifted.c k)) : Fun Try.prog 55 (impl_Shifted.e k).G := fun_ok mixed (body := impl_Shifted.bd) Try.func55 (by kernel_rfl) (by kernel_rfl) (by kernel_rfl) hC (loops_all 0 (by kernel_rfl) fun i hi => absurd hi (Nat.not_lt_zero i)) (impl_Shifted.e k) (fun a => Nat.le_of_ble_eq_true (by kernel_rfl)) fun a b h => (impl_Shifted.link k a.1 a.2.1).trans h
theorem impl_Shifted.ok (k : Nat) : Fun Try.prog 55 (impl_Shifted.e k).G := impl_Shifted.ok1 k ⟨impl_PlaneOk.ok k, impl_PtOk.ok k, impl_isCoef.ok k, trivial⟩

noncomputable def spec_l3In.f (k : Nat) (a0 : S4) : Option Bool :=
  (spec_l1In.f k  a0.a (W (0 - 500)) 500).bind fun t1 => if t1 = true then ((spec_l1In.f k  a0.b (W (0 - 500)) 500).bind fun t2 => if t2 = true then ((spec_l1In.f k  a0.c (W (0 - 500)) 500).bind fun t3 => if t3 = true then ((spec_l1In.f k  a0.d (W (0 - 500)) 500).bind fun t4 => some t4) else (some false)) else (some false)) else (some false)
noncomputable def spec_l3In.e (k : Nat) : FE := { α := S4 × Unit, β := Bool, args := (lCons aS4 lNil), ret := (rOne aB), f := fun p => spec_l3In.f k p.1 }
noncomputable def spec_l3In.c (k : Nat) : List (Nat × CE) := [(156, .fn (spec_l1In.e k))]
noncomputable def spec_l3In.bd : Code := match Try.f138.body with | some c => c | none => .skip
noncomputable def spec_l3In.g (k : Nat) : List (Nat × LE) := []
theorem spec_l3In.link (k : Nat) (a0 : S4) : evFun (mkCx Try.prog (spec_l3In.c k) (spec_l3In.g k) : Cx Bool) Try.f138 ((spec_l3In.e k).args.enc (a0, ())) (spec_l3In.e k).ret.dec = spec_l3In.f k a0 := by kernel_rfl
theorem spec_l3In.ok1 (k : Nat) (hC : AllFun Try.prog (spec_l3In.c k)) : Fun Try.prog 138 (spec_l3In.e k).G := fun_ok mixed (body := spec_l3In.bd) Try.func138 (by kernel_rfl) (by kernel_rfl) (by kernel_rfl) hC (loops_all 0 (by kernel_rfl) fun i hi => absurd hi (Nat.not_lt_zero i)) (spec_l3In.e k) (fun a => Nat.le_of_ble_eq_true (by kernel_rfl)) fun a b h => (spec_l3In.link k a.1).trans h
theorem spec_l3In.ok (k : Nat) : Fun Try.prog 138 (spec_l3In.e k).G := spec_l3In.ok1 k ⟨spec_l1In.ok k, trivial⟩

noncomputable def spec_l3Abs.f (k : Nat) (a0 : Int) : Option Int :=
  if (decide (a0 < 0)) = true then (some (W (0 - a0))) else (some a0)
noncomputable def spec_l3Abs.e (k : Nat) : FE := { α := Int × Unit, β := Int, args := (lCons (aI .i64) lNil), ret := (rOne (aI .i64)), f := fun p => spec_l3Abs.f k p.1 }
noncomputable def spec_l3Abs.c (k : Nat) : List (Nat × CE) := []
noncomputable def spec_l3Abs.bd : Code := match Try.f194.body with | some c => c | none => .skip
noncomputable def spec_l3Abs.g (k : Nat) : List (Nat × LE) := []
theorem spec_l3Abs.link (k : Nat) (a0 : Int) : evFun (mkCx Try.prog (spec_l3Abs.c k) (spec_l3Abs.g k) : Cx Int) Try.f194 ((spec_l3Abs.e k).args.enc (a0, ())) (spec_l3Abs.e k).ret.dec = spec_l3Abs.f k a0 := by kernel_rfl
theorem spec_l3Abs.ok1 (k : Nat) (hC : AllFun Try.prog (spec_l3Abs.c k)) : Fun Try.prog 194 (spec_l3Abs.e k).G := fun_ok mixed (body := spec_l3Abs.bd) Try.func194 (by kernel_rfl) (by kernel_rfl) (by kernel_rfl) hC (loops_all 0 (by kernel_rfl) fun i hi => absurd hi (Nat.not_lt_zero i)) (spec_l3Abs.e k) (fun a => Nat.le_of_ble_eq_true (by kernel_rfl)) fun a b h => (spec_l3Abs.link k a.1).trans h
theorem spec_l3Abs.ok (k : Nat) : Fun Try.prog 194 (spec_l3Abs.e k).G := spec_l3Abs.ok1 k trivial

noncomputable def spec_l3Gcd.H3 : Hd := ⟨[], [0, 1], [], []⟩
@[reducible] def spec_l3Gcd.A3 : Type := ((Int × Int × Unit) × (Unit))
noncomputable def spec_l3Gcd.Z3 : SC spec_l3Gcd.A3 := sC spec_l3Gcd.H3 (eCons 0 (tP (aI .i64)) (eCons 1 (tP (aI .i64)) eNil)) bNil
@[reducible] def spec_l3Gcd.B3 : Type := ((Int × Unit) × (Unit))
noncomputable def spec_l3Gcd.X3 : XC spec_l3Gcd.B3 := xExit 0 (sC ⟨[], [0], [], []⟩ (eCons 0 (tP (aI .i64)) eNil) bNil)
noncomputable def spec_l3Gcd.s3 (k : Nat)  (J : Int → Int → Option spec_l3Gcd.B3) (x0 : Int) (x1 : Int) : Option spec_l3Gcd.B3 :=
  if (decide (x1 > 0)) = true then (if x1 = 0 then none else (J x1 (x0.tmod x1))) else (some ((x0, ()), (())))
noncomputable def spec_l3Gcd.l3 (k : Nat)  : Nat → Int → Int → Option spec_l3Gcd.B3
  | 0, _, _ => none
  | n + 1, x0, x1 => spec_l3Gcd.s3 k (spec_l3Gcd.l3 k n) x0 x1
noncomputable def spec_l3Gcd.f (k : Nat) (a0 : Int) (a1 : Int) : Option Int :=
  (spec_l3Abs.f k  a0).bind fun t1 => (spec_l3Abs.f k  a1).bind fun t2 => (spec_l3Gcd.l3 k k t1 t2).bind fun x3 => some x3.1.1
noncomputable def spec_l3Gcd.e (k : Nat) : FE := { α := Int × Int × Unit, β := Int, args := (lCons (aI .i64) (lCons (aI .i64) lNil)), ret := (rOne (aI .i64)), f := fun p => spec_l3Gcd.f k p.1 p.2.1 }
noncomputable def spec_l3Gcd.c (k : Nat) : List (Nat × CE) := [(194, .fn (spec_l3Abs.e k))]
noncomputable def spec_l3Gcd.bd : Code := match Try.f139.body with | some c => c | none => .skip
noncomputable def spec_l3Gcd.e3 (k : Nat) : LE := { H := spec_l3Gcd.H3, α := spec_l3Gcd.A3, β := spec_l3Gcd.B3, st := spec_l3Gcd.Z3, xt := spec_l3Gcd.X3, f := fun p => spec_l3Gcd.l3 k k p.1.1 p.1.2.1 }
noncomputable def spec_l3Gcd.g (k : Nat) : List (Nat × LE) := [(3, spec_l3Gcd.e3 k)]
theorem spec_l3Gcd.t3 (k : Nat) (I : S2 → Option spec_l3Gcd.B3) (x0 : Int) (x1 : Int) : stepOf (mkCx Try.prog (spec_l3Gcd.c k) (spec_l3Gcd.g k) : Cx spec_l3Gcd.B3) (loopAt spec_l3Gcd.bd 0) spec_l3Gcd.H3 spec_l3Gcd.X3.dec I (spec_l3Gcd.Z3.enc ((x0, x1, ()), (()))) = spec_l3Gcd.s3 k (fun x0 x1 => I (spec_l3Gcd.Z3.enc ((x0, x1, ()), (())))) x0 x1 := by kernel_rfl
theorem spec_l3Gcd.i3 (k : Nat) : ∀ (n : Nat) (x0 : Int) (x1 : Int), iter (evCode (mkCx Try.prog (spec_l3Gcd.c k) (spec_l3Gcd.g k) : Cx spec_l3Gcd.B3) (loopAt spec_l3Gcd.bd 0)) spec_l3Gcd.H3 spec_l3Gcd.X3.dec n (spec_l3Gcd.Z3.enc ((x0, x1, ()), (()))) = spec_l3Gcd.l3 k n x0 x1
  | 0, _, _ => rfl
  | n + 1, x0, x1 => ((iter_step _ _ _ _ n _).trans (spec_l3Gcd.t3 k _ x0 x1)).trans (congrArg (fun J => spec_l3Gcd.s3 k J x0 x1) (funext fun x0 => funext fun x1 => spec_l3Gcd.i3 k n x0 x1))
theorem spec_l3Gcd.to3 (k : Nat) (hC : AllFun Try.prog (spec_l3Gcd.c k)) : LoopTo Try.prog 18 (spec_l3Gcd.e3 k) (loopAt spec_l3Gcd.bd 0) := loop_to mixed hC (by kernel_rfl) (loops_all 0 (by kernel_rfl) fun i hi => absurd hi (Nat.not_lt_zero i)) fun a b h => ⟨k, (spec_l3Gcd.i3 k k a.1.1 a.1.2.1).trans h⟩
theorem spec_l3Gcd.link (k : Nat) (a0 : Int) (a1 : Int) : evFun (mkCx Try.prog (spec_l3Gcd.c k) (spec_l3Gcd.g k) : Cx Int) Try.f139 ((spec_l3Gcd.e k).args.enc (a0, a1, ())) (spec_l3Gcd.e k).ret.dec = spec_l3Gcd.f k a0 a1 := by kernel_rfl
theorem spec_l3Gcd.ok1 (k : Nat) (hC : AllFun Try.prog (spec_l3Gcd.c k)) : Fun Try.prog 139 (spec_l3Gcd.e k).G := fun_ok mixed (body := spec_l3Gcd.bd) Try.func139 (by kernel_rfl) (by kernel_rfl) (by kernel_rfl) hC (loops_all 1 (by kernel_rfl) fun i hi => by obtain rfl : i = 0 := Nat.lt_one_iff.1 hi; exact ⟨spec_l3Gcd.e3 k, by kernel_rfl, spec_l3Gcd.to3 k hC⟩) (spec_l3Gcd.e k) (fun a => Nat.le_of_ble_eq_true (by kernel_rfl)) fun a b h => (spec_l3Gcd.link k a.1 a.2.1).trans h
theorem spec_l3Gcd.ok (k : Nat) : Fun Try.prog 139 (spec_l3Gcd.e k).G := spec_l3Gcd.ok1 k ⟨spec_l3Abs.ok k, trivial⟩

noncomputable def spec_PlaneOk.f (k : Nat) (a0 : S4) : Option Bool :=
  (spec_l3In.f k  a0).bind fun t1 => if t1 = true then (if (a0.a != 0) = true then ((spec_l3Gcd.f k  a0.a a0.b).bind fun t2 => (spec_l3Gcd.f k  a0.c a0.d).bind fun t3 => (spec_l3Gcd.f k  t2 t3).bind fun t4 => some (t4 == 1)) else (if (a0.b != 0) = true then ((spec_l3Gcd.f k  a0.a a0.b).bind fun t5 => (spec_l3Gcd.f k  a0.c a0.d).bind fun t6 => (spec_l3Gcd.f k  t5 t6).bind fun t7 => some (t7 == 1)) else (if (a0.c != 0) = true then ((spec_l3Gcd.f k  a0.a a0.b).bind fun t8 => (spec_l3Gcd.f k  a0.c a0.d).bind fun t9 => (spec_l3Gcd.f k  t8 t9).bind fun t10 => some (t10 == 1)) else (some false)))) else (some false)
noncomputable def spec_PlaneOk.e (k : Nat) : FE := { α := S4 × Unit, β := Bool, args := (lCons aS4 lNil), ret := (rOne aB), f := fun p => spec_PlaneOk.f k p.1 }
noncomputable def spec_PlaneOk.c (k : Nat) : List (Nat × CE) := [(138, .fn (spec_l3In.e k)), (139, .fn (spec_l3Gcd.e k))]
noncomputable def spec_PlaneOk.bd : Code := match Try.f67.body with | some c => c | none => .skip
noncomputable def spec_PlaneOk.g (k : Nat) : List (Nat × LE) := []
theorem spec_PlaneOk.link (k : Nat) (a0 : S4) : evFun (mkCx Try.prog (spec_PlaneOk.c k) (spec_PlaneOk.g k) : Cx Bool) Try.f67 ((spec_PlaneOk.e k).args.enc (a0, ())) (spec_PlaneOk.e k).ret.dec = spec_PlaneOk.f k a0 := by kernel_rfl
theorem spec_PlaneOk.ok1 (k : Nat) (hC : AllFun Try.prog (spec_PlaneOk.c k)) : Fun Try.prog 67 (spec_PlaneOk.e k).G := fun_ok mixed (body := spec_PlaneOk.bd) Try.func67 (by kernel_rfl) (by kernel_rfl) (by kernel_rfl) hC (loops_all 0 (by kernel_rfl) fun i hi => absurd hi (Nat.not_lt_zero i)) (spec_PlaneOk.e k) (fun a => Nat.le_of_ble_eq_true (by kernel_rfl)) fun a b h => (spec_PlaneOk.link k a.1).trans h
theorem spec_PlaneOk.ok (k : Nat) : Fun Try.prog 67 (spec_PlaneOk.e k).G := spec_PlaneOk.ok1 k ⟨spec_l3In.ok k, spec_l3Gcd.ok k, trivial⟩

noncomputable def spec_PtOk.f (k : Nat) (a0 : S3) : Option Bool :=
  (spec_l1In.f k  a0.x (-1000000) 1000000).bind fun t1 => if t1 = true then ((spec_l1In.f k  a0.y (-1000000) 1000000).bind fun t2 => if t2 = true then ((spec_l1In.f k  a0.z (-1000000) 1000000).bind fun t3 => some t3) else (some false)) else (some false)
noncomputable def spec_PtOk.e (k : Nat) : FE := { α := S3 × Unit, β := Bool, args := (lCons aS3 lNil), ret := (rOne aB), f := fun p => spec_PtOk.f k p.1 }
noncomputable def spec_PtOk.c (k : Nat) : List (Nat × CE) := [(156, .fn (spec_l1In.e k))]
noncomputable def spec_PtOk.bd : Code := match Try.f124.body with | some c => c | none => .skip
noncomputable def spec_PtOk.g (k : Nat) : List (Nat × LE) := []
theorem spec_PtOk.link (k : Nat) (a0 : S3) : evFun (mkCx Try.prog (spec_PtOk.c k) (spec_PtOk.g k) : Cx Bool) Try.f124 ((spec_PtOk.e k).args.enc (a0, ())) (spec_PtOk.e k).ret.dec = spec_PtOk.f k a0 := by kernel_rfl
theorem spec_PtOk.ok1 (k : Nat) (hC : AllFun Try.prog (spec_PtOk.c k)) : Fun Try.prog 124 (spec_PtOk.e k).G := fun_ok mixed (body := spec_PtOk.bd) Try.func124 (by kernel_rfl) (by kernel_rfl) (by kernel_rfl) hC (loops_all 0 (by kernel_rfl) fun i hi => absurd hi (Nat.not_lt_zero i)) (spec_PtOk.e k) (fun a => Nat.le_of_ble_eq_true (by kernel_rfl)) fun a b h => (spec_PtOk.link k a.1).trans h
theorem spec_PtOk.ok (k : Nat) : Fun Try.prog 124 (spec_PtOk.e k).G := spec_PtOk.ok1 k ⟨spec_l1In.ok k, trivial⟩

noncomputable def spec_Shifted.f (k : Nat) (a0 : S4) (a1 : S3) : Option (S4 × Int × Unit) :=
  (spec_PlaneOk.f k  a0).bind fun t1 => if (!t1) = true then (some ((⟨0, 0, 0, 0⟩ : S4), 1, ())) else ((spec_PtOk.f k  a1).bind fun t2 => if (!t2) = true then (some ((⟨0, 0, 0, 0⟩ : S4), 1, ())) else ((spec_Primitive.f k  a0.a a0.b a0.c (W (a0.d - (W ((W ((W (a0.a * a1.x)) + (W (a0.b * a1.y)))) + (W (a0.c * a1.z))))))).bind fun t3 => some (t3.1, t3.2.1, ())))
noncomputable def spec_Shifted.e (k : Nat) : FE := { α := S4 × S3 × Unit, β := (S4 × Int × Unit), args := (lCons aS4 (lCons aS3 lNil)), ret := (rMany (lCons aS4 (lCons (aI .i64) lNil))), f := fun p => spec_Shifted.f k p.1 p.2.1 }
noncomputable def spec_Shifted.c (k : Nat) : List (Nat × CE) := [(67, .fn (spec_PlaneOk.e k)), (124, .fn (spec_PtOk.e k)), (125, .fn (spec_Primitive.e k))]
noncomputable def spec_Shifted.bd : Code := match Try.f56.body with | some c => c | none => .skip
noncomputable def spec_Shifted.g (k : Nat) : List (Nat × LE) := []
theorem spec_Shifted.link (k : Nat) (a0 : S4) (a1 : S3) : evFun (mkCx Try.prog (spec_Shifted.c k) (spec_Shifted.g k) : Cx (S4 × Int × Unit)) Try.f56 ((spec_Shifted.e k).args.enc (a0, a1, ())) (spec_Shifted.e k).ret.dec = spec_Shifted.f k a0 a1 := by kernel_rfl
theorem spec_Shifted.ok1 (k : Nat) (hC : AllFun Try.prog (spec_Shifted.c k)) : Fun Try.prog 56 (spec_Shifted.e k).G := fun_ok mixed (body := spec_Shifted.bd) Try.func56 (by kernel_rfl) (by kernel_rfl) (by kernel_rfl) hC (loops_all 0 (by kernel_rfl) fun i hi => absurd hi (Nat.not_lt_zero i)) (spec_Shifted.e k) (fun a => Nat.le_of_ble_eq_true (by kernel_rfl)) fun a b h => (spec_Shifted.link k a.1 a.2.1).trans h
theorem spec_Shifted.ok (k : Nat) : Fun Try.prog 56 (spec_Shifted.e k).G := spec_Shifted.ok1 k ⟨spec_PlaneOk.ok k, spec_PtOk.ok k, spec_Primitive.ok k, trivial⟩

noncomputable def laws_at.f (k : Nat) (a0 : List Int) (a1 : Int) : Option Int :=
  if (decide (a1 < (a0.length : Int))) = true then (if 0 ≤ a1 then (if a1 < (a0.length : Int) then (some (W (rd a0 a1))) else none) else none) else (if 256 = 0 then none else (some ((W ((W (a1 * 31)) + (W ((a0.length : Int) * 7)))).tmod 256)))
noncomputable def laws_at.e (k : Nat) : FE := { α := (List Int) × Int × Unit, β := Int, args := (lCons (aSl (.i .u8)) (lCons (aI .i64) lNil)), ret := (rOne (aI .i64)), f := fun p => laws_at.f k p.1 p.2.1 }
noncomputable def laws_at.c (k : Nat) : List (Nat × CE) := []
noncomputable def laws_at.bd : Code := match Try.f57.body with | some c => c | none => .skip
noncomputable def laws_at.g (k : Nat) : List (Nat × LE) := []
theorem laws_at.link (k : Nat) (a0 : List Int) (a1 : Int) : evFun (mkCx Try.prog (laws_at.c k) (laws_at.g k) : Cx Int) Try.f57 ((laws_at.e k).args.enc (a0, a1, ())) (laws_at.e k).ret.dec = laws_at.f k a0 a1 := by kernel_rfl
theorem laws_at.ok1 (k : Nat) (hC : AllFun Try.prog (laws_at.c k)) : Fun Try.prog 57 (laws_at.e k).G := fun_ok mixed (body := laws_at.bd) Try.func57 (by kernel_rfl) (by kernel_rfl) (by kernel_rfl) hC (loops_all 0 (by kernel_rfl) fun i hi => absurd hi (Nat.not_lt_zero i)) (laws_at.e k) (fun a => Nat.le_of_ble_eq_true (by kernel_rfl)) fun a b h => (laws_at.link k a.1 a.2.1).trans h
theorem laws_at.ok (k : Nat) : Fun Try.prog 57 (laws_at.e k).G := laws_at.ok1 k trivial

noncomputable def cmp_isNaN_int.f (k : Nat) (a0 : Int) : Option Bool :=
  some (a0 != a0)
noncomputable def cmp_isNaN_int.e (k : Nat) : FE := { α := Int × Unit, β := Bool, args := (lCons (aI .i64) lNil), ret := (rOne aB), f := fun p => cmp_isNaN_int.f k p.1 }
noncomputable def cmp_isNaN_int.c (k : Nat) : List (Nat × CE) := []
noncomputable def cmp_isNaN_int.bd : Code := match Try.f223.body with | some c => c | none => .skip
noncomputable def cmp_isNaN_int.g (k : Nat) : List (Nat × LE) := []
theorem cmp_isNaN_int.link (k : Nat) (a0 : Int) : evFun (mkCx Try.prog (cmp_isNaN_int.c k) (cmp_isNaN_int.g k) : Cx Bool) Try.f223 ((cmp_isNaN_int.e k).args.enc (a0, ())) (cmp_isNaN_int.e k).ret.dec = cmp_isNaN_int.f k a0 := by kernel_rfl
theorem cmp_isNaN_int.ok1 (k : Nat) (hC : AllFun Try.prog (cmp_isNaN_int.c k)) : Fun Try.prog 223 (cmp_isNaN_int.e k).G := fun_ok mixed (body := cmp_isNaN_int.bd) Try.func223 (by kernel_rfl) (by kernel_rfl) (by kernel_rfl) hC (loops_all 0 (by kernel_rfl) fun i hi => absurd hi (Nat.not_lt_zero i)) (cmp_isNaN_int.e k) (fun a => Nat.le_of_ble_eq_true (by kernel_rfl)) fun a b h => (cmp_isNaN_int.link k a.1).trans h
theorem cmp_isNaN_int.ok (k : Nat) : Fun Try.prog 223 (cmp_isNaN_int.e k).G := cmp_isNaN_int.ok1 k trivial

noncomputable def cmp_Compare_int.f (k : Nat) (a0 : Int) (a1 : Int) : Option Int :=
  (cmp_isNaN_int.f k  a0).bind fun t1 => (cmp_isNaN_int.f k  a1).bind fun t2 => if t1 = true then (if t2 = true then (some 0) else (some (-1))) else (if t2 = true then (some 1) else (if (decide (a0 < a1)) = true then (some (-1)) else (if (decide (a0 > a1)) = true then (some 1) else (some 0))))
noncomputable def cmp_Compare_int.e (k : Nat) : FE := { α := Int × Int × Unit, β := Int, args := (lCons (aI .i64) (lCons (aI .i64) lNil)), ret := (rOne (aI .i64)), f := fun p => cmp_Compare_int.f k p.1 p.2.1 }
noncomputable def cmp_Compare_int.c (k : Nat) : List (Nat × CE) := [(223, .fn (cmp_isNaN_int.e k))]
noncomputable def cmp_Compare_int.bd : Code := match Try.f191.body with | some c => c | none => .skip
noncomputable def cmp_Compare_int.g (k : Nat) : List (Nat × LE) := []
theorem cmp_Compare_int.link (k : Nat) (a0 : Int) (a1 : Int) : evFun (mkCx Try.prog (cmp_Compare_int.c k) (cmp_Compare_int.g k) : Cx Int) Try.f191 ((cmp_Compare_int.e k).args.enc (a0, a1, ())) (cmp_Compare_int.e k).ret.dec = cmp_Compare_int.f k a0 a1 := by kernel_rfl
theorem cmp_Compare_int.ok1 (k : Nat) (hC : AllFun Try.prog (cmp_Compare_int.c k)) : Fun Try.prog 191 (cmp_Compare_int.e k).G := fun_ok mixed (body := cmp_Compare_int.bd) Try.func191 (by kernel_rfl) (by kernel_rfl) (by kernel_rfl) hC (loops_all 0 (by kernel_rfl) fun i hi => absurd hi (Nat.not_lt_zero i)) (cmp_Compare_int.e k) (fun a => Nat.le_of_ble_eq_true (by kernel_rfl)) fun a b h => (cmp_Compare_int.link k a.1 a.2.1).trans h
theorem cmp_Compare_int.ok (k : Nat) : Fun Try.prog 191 (cmp_Compare_int.e k).G := cmp_Compare_int.ok1 k ⟨cmp_isNaN_int.ok k, trivial⟩

noncomputable def impl_sign.f (k : Nat) (a0 : Int) : Option Int :=
  (cmp_Compare_int.f k  a0 0).bind fun t1 => some t1
noncomputable def impl_sign.e (k : Nat) : FE := { α := Int × Unit, β := Int, args := (lCons (aI .i64) lNil), ret := (rOne (aI .i64)), f := fun p => impl_sign.f k p.1 }
noncomputable def impl_sign.c (k : Nat) : List (Nat × CE) := [(191, .fn (cmp_Compare_int.e k))]
noncomputable def impl_sign.bd : Code := match Try.f127.body with | some c => c | none => .skip
noncomputable def impl_sign.g (k : Nat) : List (Nat × LE) := []
theorem impl_sign.link (k : Nat) (a0 : Int) : evFun (mkCx Try.prog (impl_sign.c k) (impl_sign.g k) : Cx Int) Try.f127 ((impl_sign.e k).args.enc (a0, ())) (impl_sign.e k).ret.dec = impl_sign.f k a0 := by kernel_rfl
theorem impl_sign.ok1 (k : Nat) (hC : AllFun Try.prog (impl_sign.c k)) : Fun Try.prog 127 (impl_sign.e k).G := fun_ok mixed (body := impl_sign.bd) Try.func127 (by kernel_rfl) (by kernel_rfl) (by kernel_rfl) hC (loops_all 0 (by kernel_rfl) fun i hi => absurd hi (Nat.not_lt_zero i)) (impl_sign.e k) (fun a => Nat.le_of_ble_eq_true (by kernel_rfl)) fun a b h => (impl_sign.link k a.1).trans h
theorem impl_sign.ok (k : Nat) : Fun Try.prog 127 (impl_sign.e k).G := impl_sign.ok1 k ⟨cmp_Compare_int.ok k, trivial⟩

noncomputable def impl_valueAt.f (k : Nat) (a0 : S4) (a1 : S3) : Option Int :=
  some (W ((W ((W ((W (a0.a * a1.x)) + (W (a0.b * a1.y)))) + (W (a0.c * a1.z)))) + a0.d))
noncomputable def impl_valueAt.e (k : Nat) : FE := { α := S4 × S3 × Unit, β := Int, args := (lCons aS4 (lCons aS3 lNil)), ret := (rOne (aI .i64)), f := fun p => impl_valueAt.f k p.1 p.2.1 }
noncomputable def impl_valueAt.c (k : Nat) : List (Nat × CE) := []
noncomputable def impl_valueAt.bd : Code := match Try.f128.body with | some c => c | none => .skip
noncomputable def impl_valueAt.g (k : Nat) : List (Nat × LE) := []
theorem impl_valueAt.link (k : Nat) (a0 : S4) (a1 : S3) : evFun (mkCx Try.prog (impl_valueAt.c k) (impl_valueAt.g k) : Cx Int) Try.f128 ((impl_valueAt.e k).args.enc (a0, a1, ())) (impl_valueAt.e k).ret.dec = impl_valueAt.f k a0 a1 := by kernel_rfl
theorem impl_valueAt.ok1 (k : Nat) (hC : AllFun Try.prog (impl_valueAt.c k)) : Fun Try.prog 128 (impl_valueAt.e k).G := fun_ok mixed (body := impl_valueAt.bd) Try.func128 (by kernel_rfl) (by kernel_rfl) (by kernel_rfl) hC (loops_all 0 (by kernel_rfl) fun i hi => absurd hi (Nat.not_lt_zero i)) (impl_valueAt.e k) (fun a => Nat.le_of_ble_eq_true (by kernel_rfl)) fun a b h => (impl_valueAt.link k a.1 a.2.1).trans h
theorem impl_valueAt.ok (k : Nat) : Fun Try.prog 128 (impl_valueAt.e k).G := impl_valueAt.ok1 k trivial

noncomputable def impl_SideOf.f (k : Nat) (a0 : S4) (a1 : S3) : Option Int :=
  (impl_PlaneOk.f k  a0).bind fun t1 => if (!t1) = true then (some 0) else ((impl_PtOk.f k  a1).bind fun t2 => if (!t2) = true then (some 0) else ((impl_valueAt.f k  a0 a1).bind fun t3 => (impl_sign.f k  t3).bind fun t4 => some t4))
noncomputable def impl_SideOf.e (k : Nat) : FE := { α := S4 × S3 × Unit, β := Int, args := (lCons aS4 (lCons aS3 lNil)), ret := (rOne (aI .i64)), f := fun p => impl_SideOf.f k p.1 p.2.1 }
noncomputable def impl_SideOf.c (k : Nat) : List (Nat × CE) := [(87, .fn (impl_PlaneOk.e k)), (58, .fn (impl_PtOk.e k)), (128, .fn (impl_valueAt.e k)), (127, .fn (impl_sign.e k))]
noncomputable def impl_SideOf.bd : Code := match Try.f59.body with | some c => c | none => .skip
noncomputable def impl_SideOf.g (k : Nat) : List (Nat × LE) := []
theorem impl_SideOf.link (k : Nat) (a0 : S4) (a1 : S3) : evFun (mkCx Try.prog (impl_SideOf.c k) (impl_SideOf.g k) : Cx Int) Try.f59 ((impl_SideOf.e k).args.enc (a0, a1, ())) (impl_SideOf.e k).ret.dec = impl_SideOf.f k a0 a1 := by kernel_rfl
theorem impl_SideOf.ok1 (k : Nat) (hC : AllFun Try.prog (impl_SideOf.c k)) : Fun Try.prog 59 (impl_SideOf.e k).G := fun_ok mixed (body := impl_SideOf.bd) Try.func59 (by kernel_rfl) (by kernel_rfl) (by kernel_rfl) hC (loops_all 0 (by kernel_rfl) fun i hi => absurd hi (Nat.not_lt_zero i)) (impl_SideOf.e k) (fun a => Nat.le_of_ble_eq_true (by kernel_rfl)) fun a b h => (impl_SideOf.link k a.1 a.2.1).trans h
theorem impl_SideOf.ok (k : Nat) : Fun Try.prog 59 (impl_SideOf.e k).G := impl_SideOf.ok1 k ⟨impl_PlaneOk.ok k, impl_PtOk.ok k, impl_valueAt.ok k, impl_sign.ok k, trivial⟩

noncomputable def impl_crossOf.f (k : Nat) (a0 : S3) (a1 : S3) : Option S3 :=
  some (⟨(W ((W (a0.y * a1.z)) - (W (a0.z * a1.y)))), (W ((W (a0.z * a1.x)) - (W (a0.x * a1.z)))), (W ((W (a0.x * a1.y)) - (W (a0.y * a1.x))))⟩ : S3)
noncomputable def impl_crossOf.e (k : Nat) : FE := { α := S3 × S3 × Unit, β := S3, args := (lCons aS3 (lCons aS3 lNil)), ret := (rOne aS3), f := fun p => impl_crossOf.f k p.1 p.2.1 }
noncomputable def impl_crossOf.c (k : Nat) : List (Nat × CE) := []
noncomputable def impl_crossOf.bd : Code := match Try.f133.body with | some c => c | none => .skip
noncomputable def impl_crossOf.g (k : Nat) : List (Nat × LE) := []
theorem impl_crossOf.link (k : Nat) (a0 : S3) (a1 : S3) : evFun (mkCx Try.prog (impl_crossOf.c k) (impl_crossOf.g k) : Cx S3) Try.f133 ((impl_crossOf.e k).args.enc (a0, a1, ())) (impl_crossOf.e k).ret.dec = impl_crossOf.f k a0 a1 := by kernel_rfl
theorem impl_crossOf.ok1 (k : Nat) (hC : AllFun Try.prog (impl_crossOf.c k)) : Fun Try.prog 133 (impl_crossOf.e k).G := fun_ok mixed (body := impl_crossOf.bd) Try.func133 (by kernel_rfl) (by kernel_rfl) (by kernel_rfl) hC (loops_all 0 (by kernel_rfl) fun i hi => absurd hi (Nat.not_lt_zero i)) (impl_crossOf.e k) (fun a => Nat.le_of_ble_eq_true (by kernel_rfl)) fun a b h => (impl_crossOf.link k a.1 a.2.1).trans h
theorem impl_crossOf.ok (k : Nat) : Fun Try.prog 133 (impl_crossOf.e k).G := impl_crossOf.ok1 k trivial

noncomputable def impl_normal.f (k : Nat) (a0 : S4) : Option S3 :=
  some (⟨a0.a, a0.b, a0.c⟩ : S3)
noncomputable def impl_normal.e (k : Nat) : FE := { α := S4 × Unit, β := S3, args := (lCons aS4 lNil), ret := (rOne aS3), f := fun p => impl_normal.f k p.1 }
noncomputable def impl_normal.c (k : Nat) : List (Nat × CE) := []
noncomputable def impl_normal.bd : Code := match Try.f134.body with | some c => c | none => .skip
noncomputable def impl_normal.g (k : Nat) : List (Nat × LE) := []
theorem impl_normal.link (k : Nat) (a0 : S4) : evFun (mkCx Try.prog (impl_normal.c k) (impl_normal.g k) : Cx S3) Try.f134 ((impl_normal.e k).args.enc (a0, ())) (impl_normal.e k).ret.dec = impl_normal.f k a0 := by kernel_rfl
theorem impl_normal.ok1 (k : Nat) (hC : AllFun Try.prog (impl_normal.c k)) : Fun Try.prog 134 (impl_normal.e k).G := fun_ok mixed (body := impl_normal.bd) Try.func134 (by kernel_rfl) (by kernel_rfl) (by kernel_rfl) hC (loops_all 0 (by kernel_rfl) fun i hi => absurd hi (Nat.not_lt_zero i)) (impl_normal.e k) (fun a => Nat.le_of_ble_eq_true (by kernel_rfl)) fun a b h => (impl_normal.link k a.1).trans h
theorem impl_normal.ok (k : Nat) : Fun Try.prog 134 (impl_normal.e k).G := impl_normal.ok1 k trivial

noncomputable def impl_dot.f (k : Nat) (a0 : S3) (a1 : S3) : Option Int :=
  some (W ((W ((W (a0.x * a1.x)) + (W (a0.y * a1.y)))) + (W (a0.z * a1.z))))
noncomputable def impl_dot.e (k : Nat) : FE := { α := S3 × S3 × Unit, β := Int, args := (lCons aS3 (lCons aS3 lNil)), ret := (rOne (aI .i64)), f := fun p => impl_dot.f k p.1 p.2.1 }
noncomputable def impl_dot.c (k : Nat) : List (Nat × CE) := []
noncomputable def impl_dot.bd : Code := match Try.f192.body with | some c => c | none => .skip
noncomputable def impl_dot.g (k : Nat) : List (Nat × LE) := []
theorem impl_dot.link (k : Nat) (a0 : S3) (a1 : S3) : evFun (mkCx Try.prog (impl_dot.c k) (impl_dot.g k) : Cx Int) Try.f192 ((impl_dot.e k).args.enc (a0, a1, ())) (impl_dot.e k).ret.dec = impl_dot.f k a0 a1 := by kernel_rfl
theorem impl_dot.ok1 (k : Nat) (hC : AllFun Try.prog (impl_dot.c k)) : Fun Try.prog 192 (impl_dot.e k).G := fun_ok mixed (body := impl_dot.bd) Try.func192 (by kernel_rfl) (by kernel_rfl) (by kernel_rfl) hC (loops_all 0 (by kernel_rfl) fun i hi => absurd hi (Nat.not_lt_zero i)) (impl_dot.e k) (fun a => Nat.le_of_ble_eq_true (by kernel_rfl)) fun a b h => (impl_dot.link k a.1 a.2.1).trans h
theorem impl_dot.ok (k : Nat) : Fun Try.prog 192 (impl_dot.e k).G := impl_dot.ok1 k trivial

noncomputable def impl_parallel.f (k : Nat) (a0 : S4) (a1 : S4) : Option Int :=
  (impl_normal.f k  a0).bind fun t1 => (impl_normal.f k  a1).bind fun t2 => (impl_crossOf.f k  t1 t2).bind fun t3 => if (!((t3.x == 0) && ((t3.y == 0) && (t3.z == 0)))) = true then (some 0) else ((impl_normal.f k  a0).bind fun t4 => (impl_normal.f k  a1).bind fun t5 => (impl_dot.f k  t4 t5).bind fun t6 => (impl_sign.f k  t6).bind fun t7 => some t7)
noncomputable def impl_parallel.e (k : Nat) : FE := { α := S4 × S4 × Unit, β := Int, args := (lCons aS4 (lCons aS4 lNil)), ret := (rOne (aI .i64)), f := fun p => impl_parallel.f k p.1 p.2.1 }
noncomputable def impl_parallel.c (k : Nat) : List (Nat × CE) := [(134, .fn (impl_normal.e k)), (133, .fn (impl_crossOf.e k)), (192, .fn (impl_dot.e k)), (127, .fn (impl_sign.e k))]
noncomputable def impl_parallel.bd : Code := match Try.f129.body with | some c => c | none => .skip
noncomputable def impl_parallel.g (k : Nat) : List (Nat × LE) := []
theorem impl_parallel.link (k : Nat) (a0 : S4) (a1 : S4) : evFun (mkCx Try.prog (impl_parallel.c k) (impl_parallel.g k) : Cx Int) Try.f129 ((impl_parallel.e k).args.enc (a0, a1, ())) (impl_parallel.e k).ret.dec = impl_parallel.f k a0 a1 := by kernel_rfl
theorem impl_parallel.ok1 (k : Nat) (hC : AllFun Try.prog (impl_parallel.c k)) : Fun Try.prog 129 (impl_parallel.e k).G := fun_ok mixed (body := impl_parallel.bd) Try.func129 (by kernel_rfl) (by kernel_rfl) (by kernel_rfl) hC (loops_all 0 (by kernel_rfl) fun i hi => absurd hi (Nat.not_lt_zero i)) (impl_parallel.e k) (fun a => Nat.le_of_ble_eq_true (by kernel_rfl)) fun a b h => (impl_parallel.link k a.1 a.2.1).trans h
theorem impl_parallel.ok (k : Nat) : Fun Try.prog 129 (impl_parallel.e k).G := impl_parallel.ok1 k ⟨impl_normal.ok k, impl_crossOf.ok k, impl_dot.ok k, impl_sign.ok k, trivial⟩

noncomputable def impl_Parallel.f (k : Nat) (a0 : S4) (a1 : S4) : Option Int :=
  (impl_PlaneOk.f k  a0).bind fun t1 => if (!t1) = true then (some 0) else ((impl_PlaneOk.f k  a1).bind fun t2 => if (!t2) = true then (some 0) else ((impl_parallel.f k  a0 a1).bind fun t3 => some t3))
noncomputable def impl_Parallel.e (k : Nat) : FE := { α := S4 × S4 × Unit, β := Int, args := (lCons aS4 (lCons aS4 lNil)), ret := (rOne (aI .i64)), f := fun p => impl_Parallel.f k p.1 p.2.1 }
noncomputable def impl_Parallel.c (k : Nat) : List (Nat × CE) := [(87, .fn (impl_PlaneOk.e k)), (129, .fn (impl_parallel.e k))]
noncomputable def impl_Parallel.bd : Code := match Try.f60.body with | some c => c | none => .skip
noncomputable def impl_Parallel.g (k : Nat) : List (Nat × LE) := []
theorem impl_Parallel.link (k : Nat) (a0 : S4) (a1 : S4) : evFun (mkCx Try.prog (impl_Parallel.c k) (impl_Parallel.g k) : Cx Int) Try.f60 ((impl_Parallel.e k).args.enc (a0, a1, ())) (impl_Parallel.e k).ret.dec = impl_Parallel.f k a0 a1 := by kernel_rfl
theorem impl_Parallel.ok1 (k : Nat) (hC : AllFun Try.prog (impl_Parallel.c k)) : Fun Try.prog 60 (impl_Parallel.e k).G := fun_ok mixed (body := impl_Parallel.bd) Try.func60 (by kernel_rfl) (by kernel_rfl) (by kernel_rfl) hC (loops_all 0 (by kernel_rfl) fun i hi => absurd hi (Nat.not_lt_zero i)) (impl_Parallel.e k) (fun a => Nat.le_of_ble_eq_true (by kernel_rfl)) fun a b h => (impl_Parallel.link k a.1 a.2.1).trans h
theorem impl_Parallel.ok (k : Nat) : Fun Try.prog 60 (impl_Parallel.e k).G := impl_Parallel.ok1 k ⟨impl_PlaneOk.ok k, impl_parallel.ok k, trivial⟩

noncomputable def laws_FnShifted.f (k : Nat) (a0 : List Int) : Option Bool :=
  (laws_big.f k  a0).bind fun t1 => if t1 = true then (some true) else ((spec_DrawShifted.f k  a0).bind fun t2 => (impl_Shifted.f k  t2.1 t2.2.1).bind fun t3 => (spec_Shifted.f k  t2.1 t2.2.1).bind fun t4 => if (t3.2.1 != t4.2.1) = true then (some (t3.2.1 == t4.2.1)) else (if (t3.2.1 != 0) = true then (some (t3.2.1 == t4.2.1)) else ((laws_at.f k  a0 2).bind fun t5 => (laws_at.f k  a0 3).bind fun t6 => (laws_at.f k  a0 4).bind fun t7 => (impl_Shifted.f k  t3.1 (⟨(W (0 - t2.2.1.x)), (W (0 - t2.2.1.y)), (W (0 - t2.2.1.z))⟩ : S3)).bind fun t8 => if (t8.2.1 == 0) = true then (if ((t8.1.a == t2.1.a) && ((t8.1.b == t2.1.b) && ((t8.1.c == t2.1.c) && (t8.1.d == t2.1.d)))) = true then ((impl_PtOk.f k  (⟨(W ((W (t5 - 100)) + t2.2.1.x)), (W ((W (t6 - 100)) + t2.2.1.y)), (W ((W (t7 - 100)) + t2.2.1.z))⟩ : S3)).bind fun t9 => if (!t9) = true then ((impl_Parallel.f k  t2.1 t3.1).bind fun t10 => some (t10 == 1)) else ((impl_SideOf.f k  t3.1 (⟨(W ((W (t5 - 100)) + t2.2.1.x)), (W ((W (t6 - 100)) + t2.2.1.y)), (W ((W (t7 - 100)) + t2.2.1.z))⟩ : S3)).bind fun t11 => (impl_SideOf.f k  t2.1 (⟨(W (t5 - 100)), (W (t6 - 100)), (W (t7 - 100))⟩ : S3)).bind fun t12 => if (t11 == t12) = true then ((impl_Parallel.f k  t2.1 t3.1).bind fun t13 => some (t13 == 1)) else (some false))) else (some false)) else (some false))))
noncomputable def laws_FnShifted.e (k : Nat) : FE := { α := (List Int) × Unit, β := Bool, args := (lCons (aSl (.i .u8)) lNil), ret := (rOne aB), f := fun p => laws_FnShifted.f k p.1 }
noncomputable def laws_FnShifted.c (k : Nat) : List (Nat × CE) := [(53, .fn (laws_big.e k)), (54, .fn (spec_DrawShifted.e k)), (55, .fn (impl_Shifted.e k)), (56, .fn (spec_Shifted.e k)), (57, .fn (laws_at.e k)), (58, .fn (impl_PtOk.e k)), (60, .fn (impl_Parallel.e k)), (59, .fn (impl_SideOf.e k))]
noncomputable def laws_FnShifted.bd : Code := match Try.f11.body with | some c => c | none => .skip
noncomputable def laws_FnShifted.g (k : Nat) : List (Nat × LE) := []
theorem laws_FnShifted.link (k : Nat) (a0 : List Int) : evFun (mkCx Try.prog (laws_FnShifted.c k) (laws_FnShifted.g k) : Cx Bool) Try.f11 ((laws_FnShifted.e k).args.enc (a0, ())) (laws_FnShifted.e k).ret.dec = laws_FnShifted.f k a0 := by kernel_rfl
theorem laws_FnShifted.ok1 (k : Nat) (hC : AllFun Try.prog (laws_FnShifted.c k)) : Fun Try.prog 11 (laws_FnShifted.e k).G := fun_ok mixed (body := laws_FnShifted.bd) Try.func11 (by kernel_rfl) (by kernel_rfl) (by kernel_rfl) hC (loops_all 0 (by kernel_rfl) fun i hi => absurd hi (Nat.not_lt_zero i)) (laws_FnShifted.e k) (fun a => Nat.le_of_ble_eq_true (by kernel_rfl)) fun a b h => (laws_FnShifted.link k a.1).trans h
theorem laws_FnShifted.ok (k : Nat) : Fun Try.prog 11 (laws_FnShifted.e k).G := laws_FnShifted.ok1 k ⟨laws_big.ok k, spec_DrawShifted.ok k, impl_Shifted.ok k, spec_Shifted.ok k, laws_at.ok k, impl_PtOk.ok k, impl_Parallel.ok k, impl_SideOf.ok k, trivial⟩

noncomputable def spec_DrawDet4.f (k : Nat) (a0 : List Int) : Option (S4 × S4 × S4 × S4 × Unit) :=
  (spec_l1New.f k  a0).bind fun t1 => (spec_l3DrawAny.f k  (t1.1, t1.2.1, t1.2.2.1, ())).bind fun t2 => (spec_l3DrawAny.f k  (t2.2.1, t2.2.2.1, t2.2.2.2.1, ())).bind fun t3 => (spec_l3DrawAny.f k  (t3.2.1, t3.2.2.1, t3.2.2.2.1, ())).bind fun t4 => (spec_l3DrawAny.f k  (t4.2.1, t4.2.2.1, t4.2.2.2.1, ())).bind fun t5 => some (t2.1, t3.1, t4.1, t5.1, ())
noncomputable def spec_DrawDet4.e (k : Nat) : FE := { α := (List Int) × Unit, β := (S4 × S4 × S4 × S4 × Unit), args := (lCons (aSl (.i .u8)) lNil), ret := (rMany (lCons aS4 (lCons aS4 (lCons aS4 (lCons aS4 lNil))))), f := fun p => spec_DrawDet4.f k p.1 }
noncomputable def spec_DrawDet4.c (k : Nat) : List (Nat × CE) := [(120, .fn (spec_l1New.e k)), (121, .st (spec_l3DrawAny.e k))]
noncomputable def spec_DrawDet4.bd : Code := match Try.f61.body with | some c => c | none => .skip
noncomputable def spec_DrawDet4.g (k : Nat) : List (Nat × LE) := []
theorem spec_DrawDet4.link (k : Nat) (a0 : List Int) : evFun (mkCx Try.prog (spec_DrawDet4.c k) (spec_DrawDet4.g k) : Cx (S4 × S4 × S4 × S4 × Unit)) Try.f61 ((spec_DrawDet4.e k).args.enc (a0, ())) (spec_DrawDet4.e k).ret.dec = spec_DrawDet4.f k a0 := by kernel_rfl
theorem spec_DrawDet4.ok1 (k : Nat) (hC : AllFun Try.prog (spec_DrawDet4.c k)) : Fun Try.prog 61 (spec_DrawDet4.e k).G := fun_ok mixed (body := spec_DrawDet4.bd) Try.func61 (by kernel_rfl) (by kernel_rfl) (by kernel_rfl) hC (loops_all 0 (by kernel_rfl) fun i hi => absurd hi (Nat.not_lt_zero i)) (spec_DrawDet4.e k) (fun a => Nat.le_of_ble_eq_true (by kernel_rfl)) fun a b h => (spec_DrawDet4.link k a.1).trans h
theorem spec_DrawDet4.ok (k : Nat) : Fun Try.prog 61 (spec_DrawDet4.e k).G := spec_DrawDet4.ok1 k ⟨spec_l1New.ok k, spec_l3DrawAny.ok k, trivial⟩

noncomputable def impl_det.f (k : Nat) (a0 : S3) (a1 : S3) (a2 : S3) : Option Int :=
  (impl_crossOf.f k  a1 a2).bind fun t1 => (impl_dot.f k  a0 t1).bind fun t2 => some t2
noncomputable def impl_det.e (k : Nat) : FE := { α := S3 × S3 × S3 × Unit, β := Int, args := (lCons aS3 (lCons aS3 (lCons aS3 lNil))), ret := (rOne (aI .i64)), f := fun p => impl_det.f k p.1 p.2.1 p.2.2.1 }
noncomputable def impl_det.c (k : Nat) : List (Nat × CE) := [(133, .fn (impl_crossOf.e k)), (192, .fn (impl_dot.e k))]
noncomputable def impl_det.bd : Code := match Try.f140.body with | some c => c | none => .skip
noncomputable def impl_det.g (k : Nat) : List (Nat × LE) := []
theorem impl_det.link (k : Nat) (a0 : S3) (a1 : S3) (a2 : S3) : evFun (mkCx Try.prog (impl_det.c k) (impl_det.g k) : Cx Int) Try.f140 ((impl_det.e k).args.enc (a0, a1, a2, ())) (impl_det.e k).ret.dec = impl_det.f k a0 a1 a2 := by kernel_rfl
theorem impl_det.ok1 (k : Nat) (hC : AllFun Try.prog (impl_det.c k)) : Fun Try.prog 140 (impl_det.e k).G := fun_ok mixed (body := impl_det.bd) Try.func140 (by kernel_rfl) (by kernel_rfl) (by kernel_rfl) hC (loops_all 0 (by kernel_rfl) fun i hi => absurd hi (Nat.not_lt_zero i)) (impl_det.e k) (fun a => Nat.le_of_ble_eq_true (by kernel_rfl)) fun a b h => (impl_det.link k a.1 a.2.1 a.2.2.1).trans h
theorem impl_det.ok (k : Nat) : Fun Try.prog 140 (impl_det.e k).G := impl_det.ok1 k ⟨impl_crossOf.ok k, impl_dot.ok k, trivial⟩

noncomputable def impl_det3.f (k : Nat) (a0 : S4) (a1 : S4) (a2 : S4) : Option Int :=
  (impl_normal.f k  a0).bind fun t1 => (impl_normal.f k  a1).bind fun t2 => (impl_normal.f k  a2).bind fun t3 => (impl_det.f k  t1 t2 t3).bind fun t4 => some t4
noncomputable def impl_det3.e (k : Nat) : FE := { α := S4 × S4 × S4 × Unit, β := Int, args := (lCons aS4 (lCons aS4 (lCons aS4 lNil))), ret := (rOne (aI .i64)), f := fun p => impl_det3.f k p.1 p.2.1 p.2.2.1 }
noncomputable def impl_det3.c (k : Nat) : List (Nat × CE) := [(134, .fn (impl_normal.e k)), (140, .fn (impl_det.e k))]
noncomputable def impl_det3.bd : Code := match Try.f132.body with | some c => c | none => .skip
noncomputable def impl_det3.g (k : Nat) : List (Nat × LE) := []
theorem impl_det3.link (k : Nat) (a0 : S4) (a1 : S4) (a2 : S4) : evFun (mkCx Try.prog (impl_det3.c k) (impl_det3.g k) : Cx Int) Try.f132 ((impl_det3.e k).args.enc (a0, a1, a2, ())) (impl_det3.e k).ret.dec = impl_det3.f k a0 a1 a2 := by kernel_rfl
theorem impl_det3.ok1 (k : Nat) (hC : AllFun Try.prog (impl_det3.c k)) : Fun Try.prog 132 (impl_det3.e k).G := fun_ok mixed (body := impl_det3.bd) Try.func132 (by kernel_rfl) (by kernel_rfl) (by kernel_rfl) hC (loops_all 0 (by kernel_rfl) fun i hi => absurd hi (Nat.not_lt_zero i)) (impl_det3.e k) (fun a => Nat.le_of_ble_eq_true (by kernel_rfl)) fun a b h => (impl_det3.link k a.1 a.2.1 a.2.2.1).trans h
theorem impl_det3.ok (k : Nat) : Fun Try.prog 132 (impl_det3.e k).G := impl_det3.ok1 k ⟨impl_normal.ok k, impl_det.ok k, trivial⟩

noncomputable def impl_det4.f (k : Nat) (a0 : S4) (a1 : S4) (a2 : S4) (a3 : S4) : Option Int :=
  (impl_det3.f k  a1 a2 a3).bind fun t1 => (impl_det3.f k  a0 a2 a3).bind fun t2 => (impl_det3.f k  a0 a1 a3).bind fun t3 => (impl_det3.f k  a0 a1 a2).bind fun t4 => some (W ((W ((W ((W ((W (0 - a0.d)) * t1)) + (W (a1.d * t2)))) - (W (a2.d * t3)))) + (W (a3.d * t4))))
noncomputable def impl_det4.e (k : Nat) : FE := { α := S4 × S4 × S4 × S4 × Unit, β := Int, args := (lCons aS4 (lCons aS4 (lCons aS4 (lCons aS4 lNil)))), ret := (rOne (aI .i64)), f := fun p => impl_det4.f k p.1 p.2.1 p.2.2.1 p.2.2.2.1 }
noncomputable def impl_det4.c (k : Nat) : List (Nat × CE) := [(132, .fn (impl_det3.e k))]
noncomputable def impl_det4.bd : Code := match Try.f130.body with | some c => c | none => .skip
noncomputable def impl_det4.g (k : Nat) : List (Nat × LE) := []
theorem impl_det4.link (k : Nat) (a0 : S4) (a1 : S4) (a2 : S4) (a3 : S4) : evFun (mkCx Try.prog (impl_det4.c k) (impl_det4.g k) : Cx Int) Try.f130 ((impl_det4.e k).args.enc (a0, a1, a2, a3, ())) (impl_det4.e k).ret.dec = impl_det4.f k a0 a1 a2 a3 := by kernel_rfl
theorem impl_det4.ok1 (k : Nat) (hC : AllFun Try.prog (impl_det4.c k)) : Fun Try.prog 130 (impl_det4.e k).G := fun_ok mixed (body := impl_det4.bd) Try.func130 (by kernel_rfl) (by kernel_rfl) (by kernel_rfl) hC (loops_all 0 (by kernel_rfl) fun i hi => absurd hi (Nat.not_lt_zero i)) (impl_det4.e k) (fun a => Nat.le_of_ble_eq_true (by kernel_rfl)) fun a b h => (impl_det4.link k a.1 a.2.1 a.2.2.1 a.2.2.2.1).trans h
theorem impl_det4.ok (k : Nat) : Fun Try.prog 130 (impl_det4.e k).G := impl_det4.ok1 k ⟨impl_det3.ok k, trivial⟩

noncomputable def impl_taken.f (k : Nat) (a0 : S4) : Option S4 :=
  (impl_PlaneOk.f k  a0).bind fun t1 => if (!t1) = true then (some (⟨0, 0, 0, 0⟩ : S4)) else (some a0)
noncomputable def impl_taken.e (k : Nat) : FE := { α := S4 × Unit, β := S4, args := (lCons aS4 lNil), ret := (rOne aS4), f := fun p => impl_taken.f k p.1 }
noncomputable def impl_taken.c (k : Nat) : List (Nat × CE) := [(87, .fn (impl_PlaneOk.e k))]
noncomputable def impl_taken.bd : Code := match Try.f131.body with | some c => c | none => .skip
noncomputable def impl_taken.g (k : Nat) : List (Nat × LE) := []
theorem impl_taken.link (k : Nat) (a0 : S4) : evFun (mkCx Try.prog (impl_taken.c k) (impl_taken.g k) : Cx S4) Try.f131 ((impl_taken.e k).args.enc (a0, ())) (impl_taken.e k).ret.dec = impl_taken.f k a0 := by kernel_rfl
theorem impl_taken.ok1 (k : Nat) (hC : AllFun Try.prog (impl_taken.c k)) : Fun Try.prog 131 (impl_taken.e k).G := fun_ok mixed (body := impl_taken.bd) Try.func131 (by kernel_rfl) (by kernel_rfl) (by kernel_rfl) hC (loops_all 0 (by kernel_rfl) fun i hi => absurd hi (Nat.not_lt_zero i)) (impl_taken.e k) (fun a => Nat.le_of_ble_eq_true (by kernel_rfl)) fun a b h => (impl_taken.link k a.1).trans h
theorem impl_taken.ok (k : Nat) : Fun Try.prog 131 (impl_taken.e k).G := impl_taken.ok1 k ⟨impl_PlaneOk.ok k, trivial⟩

noncomputable def impl_Det4.f (k : Nat) (a0 : S4) (a1 : S4) (a2 : S4) (a3 : S4) : Option Int :=
  (impl_taken.f k  a0).bind fun t1 => (impl_taken.f k  a1).bind fun t2 => (impl_taken.f k  a2).bind fun t3 => (impl_taken.f k  a3).bind fun t4 => (impl_det4.f k  t1 t2 t3 t4).bind fun t5 => some t5
noncomputable def impl_Det4.e (k : Nat) : FE := { α := S4 × S4 × S4 × S4 × Unit, β := Int, args := (lCons aS4 (lCons aS4 (lCons aS4 (lCons aS4 lNil)))), ret := (rOne (aI .i64)), f := fun p => impl_Det4.f k p.1 p.2.1 p.2.2.1 p.2.2.2.1 }
noncomputable def impl_Det4.c (k : Nat) : List (Nat × CE) := [(131, .fn (impl_taken.e k)), (130, .fn (impl_det4.e k))]
noncomputable def impl_Det4.bd : Code := match Try.f62.body with | some c => c | none => .skip
noncomputable def impl_Det4.g (k : Nat) : List (Nat × LE) := []
theorem impl_Det4.link (k : Nat) (a0 : S4) (a1 : S4) (a2 : S4) (a3 : S4) : evFun (mkCx Try.prog (impl_Det4.c k) (impl_Det4.g k) : Cx Int) Try.f62 ((impl_Det4.e k).args.enc (a0, a1, a2, a3, ())) (impl_Det4.e k).ret.dec = impl_Det4.f k a0 a1 a2 a3 := by kernel_rfl
theorem impl_Det4.ok1 (k : Nat) (hC : AllFun Try.prog (impl_Det4.c k)) : Fun Try.prog 62 (impl_Det4.e k).G := fun_ok mixed (body := impl_Det4.bd) Try.func62 (by kernel_rfl) (by kernel_rfl) (by kernel_rfl) hC (loops_all 0 (by kernel_rfl) fun i hi => absurd hi (Nat.not_lt_zero i)) (impl_Det4.e k) (fun a => Nat.le_of_ble_eq_true (by kernel_rfl)) fun a b h => (impl_Det4.link k a.1 a.2.1 a.2.2.1 a.2.2.2.1).trans h
theorem impl_Det4.ok (k : Nat) : Fun Try.prog 62 (impl_Det4.e k).G := impl_Det4.ok1 k ⟨impl_taken.ok k, impl_det4.ok k, trivial⟩

noncomputable def impl_Det3.f (k : Nat) (a0 : S4) (a1 : S4) (a2 : S4) : Option Int :=
  (impl_taken.f k  a0).bind fun t1 => (impl_taken.f k  a1).bind fun t2 => (impl_taken.f k  a2).bind fun t3 => (impl_det3.f k  t1 t2 t3).bind fun t4 => some t4
noncomputable def impl_Det3.e (k : Nat) : FE := { α := S4 × S4 × S4 × Unit, β := Int, args := (lCons aS4 (lCons aS4 (lCons aS4 lNil))), ret := (rOne (aI .i64)), f := fun p => impl_Det3.f k p.1 p.2.1 p.2.2.1 }
noncomputable def impl_Det3.c (k : Nat) : List (Nat × CE) := [(131, .fn (impl_taken.e k)), (132, .fn (impl_det3.e k))]
noncomputable def impl_Det3.bd : Code := match Try.f63.body with | some c => c | none => .skip
noncomputable def impl_Det3.g (k : Nat) : List (Nat × LE) := []
theorem impl_Det3.link (k : Nat) (a0 : S4) (a1 : S4) (a2 : S4) : evFun (mkCx Try.prog (impl_Det3.c k) (impl_Det3.g k) : Cx Int) Try.f63 ((impl_Det3.e k).args.enc (a0, a1, a2, ())) (impl_Det3.e k).ret.dec = impl_Det3.f k a0 a1 a2 := by kernel_rfl
theorem impl_Det3.ok1 (k : Nat) (hC : AllFun Try.prog (impl_Det3.c k)) : Fun Try.prog 63 (impl_Det3.e k).G := fun_ok mixed (body := impl_Det3.bd) Try.func63 (by kernel_rfl) (by kernel_rfl) (by kernel_rfl) hC (loops_all 0 (by kernel_rfl) fun i hi => absurd hi (Nat.not_lt_zero i)) (impl_Det3.e k) (fun a => Nat.le_of_ble_eq_true (by kernel_rfl)) fun a b h => (impl_Det3.link k a.1 a.2.1 a.2.2.1).trans h
theorem impl_Det3.ok (k : Nat) : Fun Try.prog 63 (impl_Det3.e k).G := impl_Det3.ok1 k ⟨impl_taken.ok k, impl_det3.ok k, trivial⟩

noncomputable def impl_Cross.f (k : Nat) (a0 : S4) (a1 : S4) : Option S3 :=
  (impl_taken.f k  a0).bind fun t1 => (impl_normal.f k  t1).bind fun t2 => (impl_taken.f k  a1).bind fun t3 => (impl_normal.f k  t3).bind fun t4 => (impl_crossOf.f k  t2 t4).bind fun t5 => some t5
noncomputable def impl_Cross.e (k : Nat) : FE := { α := S4 × S4 × Unit, β := S3, args := (lCons aS4 (lCons aS4 lNil)), ret := (rOne aS3), f := fun p => impl_Cross.f k p.1 p.2.1 }
noncomputable def impl_Cross.c (k : Nat) : List (Nat × CE) := [(131, .fn (impl_taken.e k)), (134, .fn (impl_normal.e k)), (133, .fn (impl_crossOf.e k))]
noncomputable def impl_Cross.bd : Code := match Try.f64.body with | some c => c | none => .skip
noncomputable def impl_Cross.g (k : Nat) : List (Nat × LE) := []
theorem impl_Cross.link (k : Nat) (a0 : S4) (a1 : S4) : evFun (mkCx Try.prog (impl_Cross.c k) (impl_Cross.g k) : Cx S3) Try.f64 ((impl_Cross.e k).args.enc (a0, a1, ())) (impl_Cross.e k).ret.dec = impl_Cross.f k a0 a1 := by kernel_rfl
theorem impl_Cross.ok1 (k : Nat) (hC : AllFun Try.prog (impl_Cross.c k)) : Fun Try.prog 64 (impl_Cross.e k).G := fun_ok mixed (body := impl_Cross.bd) Try.func64 (by kernel_rfl) (by kernel_rfl) (by kernel_rfl) hC (loops_all 0 (by kernel_rfl) fun i hi => absurd hi (Nat.not_lt_zero i)) (impl_Cross.e k) (fun a => Nat.le_of_ble_eq_true (by kernel_rfl)) fun a b h => (impl_Cross.link k a.1 a.2.1).trans h
theorem impl_Cross.ok (k : Nat) : Fun Try.prog 64 (impl_Cross.e k).G := impl_Cross.ok1 k ⟨impl_taken.ok k, impl_normal.ok k, impl_crossOf.ok k, trivial⟩

noncomputable def spec_l4Cross.f (k : Nat) (a0 : S4) (a1 : S4) : Option S3 :=
  some (⟨(W ((W (a0.b * a1.c)) - (W (a0.c * a1.b)))), (W ((W (a0.c * a1.a)) - (W (a0.a * a1.c)))), (W ((W (a0.a * a1.b)) - (W (a0.b * a1.a))))⟩ : S3)
noncomputable def spec_l4Cross.e (k : Nat) : FE := { α := S4 × S4 × Unit, β := S3, args := (lCons aS4 (lCons aS4 lNil)), ret := (rOne aS3), f := fun p => spec_l4Cross.f k p.1 p.2.1 }
noncomputable def spec_l4Cross.c (k : Nat) : List (Nat × CE) := []
noncomputable def spec_l4Cross.bd : Code := match Try.f193.body with | some c => c | none => .skip
noncomputable def spec_l4Cross.g (k : Nat) : List (Nat × LE) := []
theorem spec_l4Cross.link (k : Nat) (a0 : S4) (a1 : S4) : evFun (mkCx Try.prog (spec_l4Cross.c k) (spec_l4Cross.g k) : Cx S3) Try.f193 ((spec_l4Cross.e k).args.enc (a0, a1, ())) (spec_l4Cross.e k).ret.dec = spec_l4Cross.f k a0 a1 := by kernel_rfl
theorem spec_l4Cross.ok1 (k : Nat) (hC : AllFun Try.prog (spec_l4Cross.c k)) : Fun Try.prog 193 (spec_l4Cross.e k).G := fun_ok mixed (body := spec_l4Cross.bd) Try.func193 (by kernel_rfl) (by kernel_rfl) (by kernel_rfl) hC (loops_all 0 (by kernel_rfl) fun i hi => absurd hi (Nat.not_lt_zero i)) (spec_l4Cross.e k) (fun a => Nat.le_of_ble_eq_true (by kernel_rfl)) fun a b h => (spec_l4Cross.link k a.1 a.2.1).trans h
theorem spec_l4Cross.ok (k : Nat) : Fun Try.prog 193 (spec_l4Cross.e k).G := spec_l4Cross.ok1 k trivial

noncomputable def spec_l4Det3.f (k : Nat) (a0 : S4) (a1 : S4) (a2 : S4) : Option Int :=
  (spec_l4Cross.f k  a1 a2).bind fun t1 => some (W ((W ((W (a0.a * t1.x)) + (W (a0.b * t1.y)))) + (W (a0.c * t1.z))))
noncomputable def spec_l4Det3.e (k : Nat) : FE := { α := S4 × S4 × S4 × Unit, β := Int, args := (lCons aS4 (lCons aS4 (lCons aS4 lNil))), ret := (rOne (aI .i64)), f := fun p => spec_l4Det3.f k p.1 p.2.1 p.2.2.1 }
noncomputable def spec_l4Det3.c (k : Nat) : List (Nat × CE) := [(193, .fn (spec_l4Cross.e k))]
noncomputable def spec_l4Det3.bd : Code := match Try.f137.body with | some c => c | none => .skip
noncomputable def spec_l4Det3.g (k : Nat) : List (Nat × LE) := []
theorem spec_l4Det3.link (k : Nat) (a0 : S4) (a1 : S4) (a2 : S4) : evFun (mkCx Try.prog (spec_l4Det3.c k) (spec_l4Det3.g k) : Cx Int) Try.f137 ((spec_l4Det3.e k).args.enc (a0, a1, a2, ())) (spec_l4Det3.e k).ret.dec = spec_l4Det3.f k a0 a1 a2 := by kernel_rfl
theorem spec_l4Det3.ok1 (k : Nat) (hC : AllFun Try.prog (spec_l4Det3.c k)) : Fun Try.prog 137 (spec_l4Det3.e k).G := fun_ok mixed (body := spec_l4Det3.bd) Try.func137 (by kernel_rfl) (by kernel_rfl) (by kernel_rfl) hC (loops_all 0 (by kernel_rfl) fun i hi => absurd hi (Nat.not_lt_zero i)) (spec_l4Det3.e k) (fun a => Nat.le_of_ble_eq_true (by kernel_rfl)) fun a b h => (spec_l4Det3.link k a.1 a.2.1 a.2.2.1).trans h
theorem spec_l4Det3.ok (k : Nat) : Fun Try.prog 137 (spec_l4Det3.e k).G := spec_l4Det3.ok1 k ⟨spec_l4Cross.ok k, trivial⟩

end Go.Proofs.Ytlkcpldohlemcaa.G
