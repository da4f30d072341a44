/- Go functions told as plain Lean functions; that the code does what these tell. Printed by a program of the session (evp.py). -/
import Derived.Test.YtlkcpldohlemcaaEv16
import Derived.Test.YtlkcpldohlemcaaG1
namespace Go.Proofs.Ytlkcpldohlemcaa.G
open Go Go.RowKit Go.Proofs Go.Proofs.Ytlkcpldohlemcaa.Ev
set_option linter.unusedVariables false
set_option maxRecDepth 100000

noncomputable def spec_l3Gcd.H3 : Hd := ⟨[], [0, 1], [], [], []⟩
@[reducible] def spec_l3Gcd.A3 : Type := ((Int × Int × Unit) × (Unit))
noncomputable def spec_l3Gcd.Z3 : SC spec_l3Gcd.A3 := sC spec_l3Gcd.H3 (eCons 0 (tP (aI .i64)) (eCons 1 (tP (aI .i64)) eNil)) bNil
@[reducible] def spec_l3Gcd.B3 : Type := ((Int × Unit) × (Unit))
noncomputable def spec_l3Gcd.X3 : XC spec_l3Gcd.B3 := xExit 0 (sC ⟨[], [0], [], [], []⟩ (eCons 0 (tP (aI .i64)) eNil) bNil)
noncomputable def spec_l3Gcd.s3 (k : Nat)  (J : Int → Int → Option spec_l3Gcd.B3) (x0 : Int) (x1 : Int) : Option spec_l3Gcd.B3 :=
  if (decide (x1 > 0)) = true then (if x1 = 0 then none else (J x1 (x0.tmod x1))) else (some ((x0, ()), (())))
noncomputable def spec_l3Gcd.l3 (k : Nat)  : Nat → Int → Int → Option spec_l3Gcd.B3
  | 0, _, _ => none
  | n + 1, x0, x1 => spec_l3Gcd.s3 k (spec_l3Gcd.l3 k n) x0 x1
noncomputable def spec_l3Gcd.f (k : Nat) (a0 : Int) (a1 : Int) : Option Int :=
  (spec_l3Abs.f k  a0).bind fun t1 => (spec_l3Abs.f k  a1).bind fun t2 => (spec_l3Gcd.l3 k k t1 t2).bind fun x3 => some x3.1.1
noncomputable def spec_l3Gcd.e (k : Nat) : FE := { α := Int × Int × Unit, β := Int, args := (lCons (aI .i64) (lCons (aI .i64) lNil)), ret := (rOne (aI .i64)), f := fun p => spec_l3Gcd.f k p.1 p.2.1 }
noncomputable def spec_l3Gcd.c (k : Nat) : List (Nat × CE) := [(194, .fn (spec_l3Abs.e k))]
noncomputable def spec_l3Gcd.bd : Code := match Try.f139.body with | some c => c | none => .skip
noncomputable def spec_l3Gcd.e3 (k : Nat) : LE := { H := spec_l3Gcd.H3, α := spec_l3Gcd.A3, β := spec_l3Gcd.B3, st := spec_l3Gcd.Z3, xt := spec_l3Gcd.X3, f := fun p => spec_l3Gcd.l3 k k p.1.1 p.1.2.1 }
noncomputable def spec_l3Gcd.g (k : Nat) : List (Nat × LE) := [(3, spec_l3Gcd.e3 k)]
theorem spec_l3Gcd.t3 (k : Nat) (I : S2 → Option spec_l3Gcd.B3) (x0 : Int) (x1 : Int) : stepOf (mkCx Try.prog (spec_l3Gcd.c k) (spec_l3Gcd.g k) : Cx spec_l3Gcd.B3) (loopAt spec_l3Gcd.bd 0) spec_l3Gcd.H3 spec_l3Gcd.X3.dec I (spec_l3Gcd.Z3.enc ((x0, x1, ()), (()))) = spec_l3Gcd.s3 k (fun x0 x1 => I (spec_l3Gcd.Z3.enc ((x0, x1, ()), (())))) x0 x1 := by kernel_rfl
theorem spec_l3Gcd.i3 (k : Nat) : ∀ (n : Nat) (x0 : Int) (x1 : Int), iter (evCode (mkCx Try.prog (spec_l3Gcd.c k) (spec_l3Gcd.g k) : Cx spec_l3Gcd.B3) (loopAt spec_l3Gcd.bd 0)) spec_l3Gcd.H3 spec_l3Gcd.X3.dec n (spec_l3Gcd.Z3.enc ((x0, x1, ()), (()))) = spec_l3Gcd.l3 k n x0 x1
  | 0, _, _ => rfl
  | n + 1, x0, x1 => ((iter_step _ _ _ _ n _).trans (spec_l3Gcd.t3 k _ x0 x1)).trans (congrArg (fun J => spec_l3Gcd.s3 k J x0 x1) (funext fun x0 => funext fun x1 => spec_l3Gcd.i3 k n x0 x1))
theorem spec_l3Gcd.to3 (k : Nat) (hC : AllFun Try.prog (spec_l3Gcd.c k)) : LoopTo Try.prog 18 (spec_l3Gcd.e3 k) (loopAt spec_l3Gcd.bd 0) := loop_to mixed hC (by kernel_rfl) (loops_all 0 (by kernel_rfl) fun i hi => absurd hi (Nat.not_lt_zero i)) fun a b h => ⟨k, (spec_l3Gcd.i3 k k a.1.1 a.1.2.1).trans h⟩
theorem spec_l3Gcd.link (k : Nat) (a0 : Int) (a1 : Int) : evFun (mkCx Try.prog (spec_l3Gcd.c k) (spec_l3Gcd.g k) : Cx Int) Try.f139 ((spec_l3Gcd.e k).args.enc (a0, a1, ())) (spec_l3Gcd.e k).ret.dec = spec_l3Gcd.f k a0 a1 := by kernel_rfl
theorem spec_l3Gcd.ok1 (k : Nat) (hC : AllFun Try.prog (spec_l3Gcd.c k)) : Fun Try.prog 139 (spec_l3Gcd.e k).G := fun_ok mixed (body := spec_l3Gcd.bd) Try.func139 (by kernel_rfl) (by kernel_rfl) (by kernel_rfl) hC (loops_all 1 (by kernel_rfl) fun i hi => by obtain rfl : i = 0 := Nat.lt_one_iff.1 hi; exact ⟨spec_l3Gcd.e3 k, by kernel_rfl, spec_l3Gcd.to3 k hC⟩) (spec_l3Gcd.e k) (fun a => Nat.le_of_ble_eq_true (by kernel_rfl)) fun a b h => (spec_l3Gcd.link k a.1 a.2.1).trans h
theorem spec_l3Gcd.ok (k : Nat) : Fun Try.prog 139 (spec_l3Gcd.e k).G := spec_l3Gcd.ok1 k ⟨spec_l3Abs.ok k, trivial⟩

noncomputable def spec_PlaneOk.f (k : Nat) (a0 : S4) : Option Bool :=
  (spec_l3In.f k  a0).bind fun t1 => if t1 = true then (if (a0.a != 0) = true then ((spec_l3Gcd.f k  a0.a a0.b).bind fun t2 => (spec_l3Gcd.f k  a0.c a0.d).bind fun t3 => (spec_l3Gcd.f k  t2 t3).bind fun t4 => some (t4 == 1)) else (if (a0.b != 0) = true then ((spec_l3Gcd.f k  a0.a a0.b).bind fun t5 => (spec_l3Gcd.f k  a0.c a0.d).bind fun t6 => (spec_l3Gcd.f k  t5 t6).bind fun t7 => some (t7 == 1)) else (if (a0.c != 0) = true then ((spec_l3Gcd.f k  a0.a a0.b).bind fun t8 => (spec_l3Gcd.f k  a0.c a0.d).bind fun t9 => (spec_l3Gcd.f k  t8 t9).bind fun t10 => some (t10 == 1)) else (some false)))) else (some false)
noncomputable def spec_PlaneOk.e (k : Nat) : FE := { α := S4 × Unit, β := Bool, args := (lCons aS4 lNil), ret := (rOne aB), f := fun p => spec_PlaneOk.f k p.1 }
noncomputable def spec_PlaneOk.c (k : Nat) : List (Nat × CE) := [(138, .fn (spec_l3In.e k)), (139, .fn (spec_l3Gcd.e k))]
noncomputable def spec_PlaneOk.bd : Code := match Try.f67.body with | some c => c | none => .skip
noncomputable def spec_PlaneOk.g (k : Nat) : List (Nat × LE) := []
theorem spec_PlaneOk.link (k : Nat) (a0 : S4) : evFun (mkCx Try.prog (spec_PlaneOk.c k) (spec_PlaneOk.g k) : Cx Bool) Try.f67 ((spec_PlaneOk.e k).args.enc (a0, ())) (spec_PlaneOk.e k).ret.dec = spec_PlaneOk.f k a0 := by kernel_rfl
theorem spec_PlaneOk.ok1 (k : Nat) (hC : AllFun Try.prog (spec_PlaneOk.c k)) : Fun Try.prog 67 (spec_PlaneOk.e k).G := fun_ok mixed (body := spec_PlaneOk.bd) Try.func67 (by kernel_rfl) (by kernel_rfl) (by kernel_rfl) hC (loops_all 0 (by kernel_rfl) fun i hi => absurd hi (Nat.not_lt_zero i)) (spec_PlaneOk.e k) (fun a => Nat.le_of_ble_eq_true (by kernel_rfl)) fun a b h => (spec_PlaneOk.link k a.1).trans h
theorem spec_PlaneOk.ok (k : Nat) : Fun Try.prog 67 (spec_PlaneOk.e k).G := spec_PlaneOk.ok1 k ⟨spec_l3In.ok k, spec_l3Gcd.ok k, trivial⟩

noncomputable def spec_l8Path.f (k : Nat) (a0 : List S4) (a1 : S4) : Option (List S4) :=
  if lt47 (([] : List S4).length + a0.length) = true then (if lt47 ((([] : List S4) ++ a0).length + ([a1] : List S4).length) = true then (some ((([] : List S4) ++ a0) ++ ([a1] : List S4))) else none) else none
noncomputable def spec_l8Path.e (k : Nat) : FE := { α := (List S4) × S4 × Unit, β := List S4, args := (lCons (aSl .s4) (lCons aS4 lNil)), ret := (rOwn 24 .s4), f := fun p => spec_l8Path.f k p.1 p.2.1 }
noncomputable def spec_l8Path.c (k : Nat) : List (Nat × CE) := []
noncomputable def spec_l8Path.bd : Code := match Try.f102.body with | some c => c | none => .skip
noncomputable def spec_l8Path.g (k : Nat) : List (Nat × LE) := []
theorem spec_l8Path.link (k : Nat) (a0 : List S4) (a1 : S4) : evFun (mkCx Try.prog (spec_l8Path.c k) (spec_l8Path.g k) : Cx (List S4)) Try.f102 ((spec_l8Path.e k).args.enc (a0, a1, ())) (spec_l8Path.e k).ret.dec = spec_l8Path.f k a0 a1 := by kernel_rfl
theorem spec_l8Path.ok1 (k : Nat) (hC : AllFun Try.prog (spec_l8Path.c k)) : Fun Try.prog 102 (spec_l8Path.e k).G := fun_ok mixed (body := spec_l8Path.bd) Try.func102 (by kernel_rfl) (by kernel_rfl) (by kernel_rfl) hC (loops_all 0 (by kernel_rfl) fun i hi => absurd hi (Nat.not_lt_zero i)) (spec_l8Path.e k) (fun a => Nat.le_of_ble_eq_true (by kernel_rfl)) fun a b h => (spec_l8Path.link k a.1 a.2.1).trans h
theorem spec_l8Path.ok (k : Nat) : Fun Try.prog 102 (spec_l8Path.e k).G := spec_l8Path.ok1 k trivial

noncomputable def spec_l4Cross.f (k : Nat) (a0 : S4) (a1 : S4) : Option S3 :=
  some (⟨(W ((W (a0.b * a1.c)) - (W (a0.c * a1.b)))), (W ((W (a0.c * a1.a)) - (W (a0.a * a1.c)))), (W ((W (a0.a * a1.b)) - (W (a0.b * a1.a))))⟩ : S3)
noncomputable def spec_l4Cross.e (k : Nat) : FE := { α := S4 × S4 × Unit, β := S3, args := (lCons aS4 (lCons aS4 lNil)), ret := (rOne aS3), f := fun p => spec_l4Cross.f k p.1 p.2.1 }
noncomputable def spec_l4Cross.c (k : Nat) : List (Nat × CE) := []
noncomputable def spec_l4Cross.bd : Code := match Try.f193.body with | some c => c | none => .skip
noncomputable def spec_l4Cross.g (k : Nat) : List (Nat × LE) := []
theorem spec_l4Cross.link (k : Nat) (a0 : S4) (a1 : S4) : evFun (mkCx Try.prog (spec_l4Cross.c k) (spec_l4Cross.g k) : Cx S3) Try.f193 ((spec_l4Cross.e k).args.enc (a0, a1, ())) (spec_l4Cross.e k).ret.dec = spec_l4Cross.f k a0 a1 := by kernel_rfl
theorem spec_l4Cross.ok1 (k : Nat) (hC : AllFun Try.prog (spec_l4Cross.c k)) : Fun Try.prog 193 (spec_l4Cross.e k).G := fun_ok mixed (body := spec_l4Cross.bd) Try.func193 (by kernel_rfl) (by kernel_rfl) (by kernel_rfl) hC (loops_all 0 (by kernel_rfl) fun i hi => absurd hi (Nat.not_lt_zero i)) (spec_l4Cross.e k) (fun a => Nat.le_of_ble_eq_true (by kernel_rfl)) fun a b h => (spec_l4Cross.link k a.1 a.2.1).trans h
theorem spec_l4Cross.ok (k : Nat) : Fun Try.prog 193 (spec_l4Cross.e k).G := spec_l4Cross.ok1 k trivial

noncomputable def spec_l3Sign.f (k : Nat) (a0 : Int) : Option Int :=
  if (decide (a0 > 0)) = true then (some 1) else (if (decide (a0 < 0)) = true then (some (-1)) else (some 0))
noncomputable def spec_l3Sign.e (k : Nat) : FE := { α := Int × Unit, β := Int, args := (lCons (aI .i64) lNil), ret := (rOne (aI .i64)), f := fun p => spec_l3Sign.f k p.1 }
noncomputable def spec_l3Sign.c (k : Nat) : List (Nat × CE) := []
noncomputable def spec_l3Sign.bd : Code := match Try.f204.body with | some c => c | none => .skip
noncomputable def spec_l3Sign.g (k : Nat) : List (Nat × LE) := []
theorem spec_l3Sign.link (k : Nat) (a0 : Int) : evFun (mkCx Try.prog (spec_l3Sign.c k) (spec_l3Sign.g k) : Cx Int) Try.f204 ((spec_l3Sign.e k).args.enc (a0, ())) (spec_l3Sign.e k).ret.dec = spec_l3Sign.f k a0 := by kernel_rfl
theorem spec_l3Sign.ok1 (k : Nat) (hC : AllFun Try.prog (spec_l3Sign.c k)) : Fun Try.prog 204 (spec_l3Sign.e k).G := fun_ok mixed (body := spec_l3Sign.bd) Try.func204 (by kernel_rfl) (by kernel_rfl) (by kernel_rfl) hC (loops_all 0 (by kernel_rfl) fun i hi => absurd hi (Nat.not_lt_zero i)) (spec_l3Sign.e k) (fun a => Nat.le_of_ble_eq_true (by kernel_rfl)) fun a b h => (spec_l3Sign.link k a.1).trans h
theorem spec_l3Sign.ok (k : Nat) : Fun Try.prog 204 (spec_l3Sign.e k).G := spec_l3Sign.ok1 k trivial

noncomputable def spec_l4Parallel.f (k : Nat) (a0 : S4) (a1 : S4) : Option Int :=
  (spec_l4Cross.f k  a0 a1).bind fun t1 => if (!((t1.x == 0) && ((t1.y == 0) && (t1.z == 0)))) = true then (some 0) else ((spec_l3Sign.f k  (W ((W ((W (a0.a * a1.a)) + (W (a0.b * a1.b)))) + (W (a0.c * a1.c))))).bind fun t2 => some t2)
noncomputable def spec_l4Parallel.e (k : Nat) : FE := { α := S4 × S4 × Unit, β := Int, args := (lCons aS4 (lCons aS4 lNil)), ret := (rOne (aI .i64)), f := fun p => spec_l4Parallel.f k p.1 p.2.1 }
noncomputable def spec_l4Parallel.c (k : Nat) : List (Nat × CE) := [(193, .fn (spec_l4Cross.e k)), (204, .fn (spec_l3Sign.e k))]
noncomputable def spec_l4Parallel.bd : Code := match Try.f227.body with | some c => c | none => .skip
noncomputable def spec_l4Parallel.g (k : Nat) : List (Nat × LE) := []
theorem spec_l4Parallel.link (k : Nat) (a0 : S4) (a1 : S4) : evFun (mkCx Try.prog (spec_l4Parallel.c k) (spec_l4Parallel.g k) : Cx Int) Try.f227 ((spec_l4Parallel.e k).args.enc (a0, a1, ())) (spec_l4Parallel.e k).ret.dec = spec_l4Parallel.f k a0 a1 := by kernel_rfl
theorem spec_l4Parallel.ok1 (k : Nat) (hC : AllFun Try.prog (spec_l4Parallel.c k)) : Fun Try.prog 227 (spec_l4Parallel.e k).G := fun_ok mixed (body := spec_l4Parallel.bd) Try.func227 (by kernel_rfl) (by kernel_rfl) (by kernel_rfl) hC (loops_all 0 (by kernel_rfl) fun i hi => absurd hi (Nat.not_lt_zero i)) (spec_l4Parallel.e k) (fun a => Nat.le_of_ble_eq_true (by kernel_rfl)) fun a b h => (spec_l4Parallel.link k a.1 a.2.1).trans h
theorem spec_l4Parallel.ok (k : Nat) : Fun Try.prog 227 (spec_l4Parallel.e k).G := spec_l4Parallel.ok1 k ⟨spec_l4Cross.ok k, spec_l3Sign.ok k, trivial⟩

noncomputable def spec_l6Clash2.f (k : Nat) (a0 : S4) (a1 : S4) : Option Bool :=
  (spec_l4Parallel.f k  a0 a1).bind fun t1 => if (decide (t1 ≥ 0)) = true then (some false) else ((spec_l3Abs.f k  a1.a).bind fun t2 => (spec_l3Abs.f k  a1.b).bind fun t3 => (spec_l3Abs.f k  a1.c).bind fun t4 => (spec_l3Abs.f k  a0.a).bind fun t5 => (spec_l3Abs.f k  a0.b).bind fun t6 => (spec_l3Abs.f k  a0.c).bind fun t7 => some (decide ((W ((W ((W ((W (t2 + t3)) + t4)) * a0.d)) + (W ((W ((W (t5 + t6)) + t7)) * a1.d)))) ≤ 0)))
noncomputable def spec_l6Clash2.e (k : Nat) : FE := { α := S4 × S4 × Unit, β := Bool, args := (lCons aS4 (lCons aS4 lNil)), ret := (rOne aB), f := fun p => spec_l6Clash2.f k p.1 p.2.1 }
noncomputable def spec_l6Clash2.c (k : Nat) : List (Nat × CE) := [(227, .fn (spec_l4Parallel.e k)), (194, .fn (spec_l3Abs.e k))]
noncomputable def spec_l6Clash2.bd : Code := match Try.f208.body with | some c => c | none => .skip
noncomputable def spec_l6Clash2.g (k : Nat) : List (Nat × LE) := []
theorem spec_l6Clash2.link (k : Nat) (a0 : S4) (a1 : S4) : evFun (mkCx Try.prog (spec_l6Clash2.c k) (spec_l6Clash2.g k) : Cx Bool) Try.f208 ((spec_l6Clash2.e k).args.enc (a0, a1, ())) (spec_l6Clash2.e k).ret.dec = spec_l6Clash2.f k a0 a1 := by kernel_rfl
theorem spec_l6Clash2.ok1 (k : Nat) (hC : AllFun Try.prog (spec_l6Clash2.c k)) : Fun Try.prog 208 (spec_l6Clash2.e k).G := fun_ok mixed (body := spec_l6Clash2.bd) Try.func208 (by kernel_rfl) (by kernel_rfl) (by kernel_rfl) hC (loops_all 0 (by kernel_rfl) fun i hi => absurd hi (Nat.not_lt_zero i)) (spec_l6Clash2.e k) (fun a => Nat.le_of_ble_eq_true (by kernel_rfl)) fun a b h => (spec_l6Clash2.link k a.1 a.2.1).trans h
theorem spec_l6Clash2.ok (k : Nat) : Fun Try.prog 208 (spec_l6Clash2.e k).G := spec_l6Clash2.ok1 k ⟨spec_l4Parallel.ok k, spec_l3Abs.ok k, trivial⟩

noncomputable def spec_l4Det3.f (k : Nat) (a0 : S4) (a1 : S4) (a2 : S4) : Option Int :=
  (spec_l4Cross.f k  a1 a2).bind fun t1 => some (W ((W ((W (a0.a * t1.x)) + (W (a0.b * t1.y)))) + (W (a0.c * t1.z))))
noncomputable def spec_l4Det3.e (k : Nat) : FE := { α := S4 × S4 × S4 × Unit, β := Int, args := (lCons aS4 (lCons aS4 (lCons aS4 lNil))), ret := (rOne (aI .i64)), f := fun p => spec_l4Det3.f k p.1 p.2.1 p.2.2.1 }
noncomputable def spec_l4Det3.c (k : Nat) : List (Nat × CE) := [(193, .fn (spec_l4Cross.e k))]
noncomputable def spec_l4Det3.bd : Code := match Try.f137.body with | some c => c | none => .skip
noncomputable def spec_l4Det3.g (k : Nat) : List (Nat × LE) := []
theorem spec_l4Det3.link (k : Nat) (a0 : S4) (a1 : S4) (a2 : S4) : evFun (mkCx Try.prog (spec_l4Det3.c k) (spec_l4Det3.g k) : Cx Int) Try.f137 ((spec_l4Det3.e k).args.enc (a0, a1, a2, ())) (spec_l4Det3.e k).ret.dec = spec_l4Det3.f k a0 a1 a2 := by kernel_rfl
theorem spec_l4Det3.ok1 (k : Nat) (hC : AllFun Try.prog (spec_l4Det3.c k)) : Fun Try.prog 137 (spec_l4Det3.e k).G := fun_ok mixed (body := spec_l4Det3.bd) Try.func137 (by kernel_rfl) (by kernel_rfl) (by kernel_rfl) hC (loops_all 0 (by kernel_rfl) fun i hi => absurd hi (Nat.not_lt_zero i)) (spec_l4Det3.e k) (fun a => Nat.le_of_ble_eq_true (by kernel_rfl)) fun a b h => (spec_l4Det3.link k a.1 a.2.1 a.2.2.1).trans h
theorem spec_l4Det3.ok (k : Nat) : Fun Try.prog 137 (spec_l4Det3.e k).G := spec_l4Det3.ok1 k ⟨spec_l4Cross.ok k, trivial⟩

noncomputable def spec_l6Sum.H5 : Hd := ⟨[], [0, 1, 5, 6, 7, 8], [], [], []⟩
@[reducible] def spec_l6Sum.A5 : Type := (((List Int) × (List Int) × Bool × Bool × Int × Int × Unit) × (Unit))
noncomputable def spec_l6Sum.Z5 : SC spec_l6Sum.A5 := sC spec_l6Sum.H5 (eCons 0 (tP (aSl (.i .i64))) (eCons 1 (tP (aSl (.i .i64))) (eCons 5 (tP aB) (eCons 6 (tP aB) (eCons 7 (tP (aI .i64)) (eCons 8 (tP (aI .i64)) eNil)))))) bNil
@[reducible] def spec_l6Sum.B5 : Type := ((Bool × Bool × Int × Unit) × (Unit))
noncomputable def spec_l6Sum.X5 : XC spec_l6Sum.B5 := xExit 0 (sC ⟨[], [5, 6, 7], [], [], []⟩ (eCons 5 (tP aB) (eCons 6 (tP aB) (eCons 7 (tP (aI .i64)) eNil))) bNil)
noncomputable def spec_l6Sum.s5 (k : Nat)  (J : (List Int) → (List Int) → Bool → Bool → Int → Int → Option spec_l6Sum.B5) (x0 : List Int) (x1 : List Int) (x5 : Bool) (x6 : Bool) (x7 : Int) (x8 : Int) : Option spec_l6Sum.B5 :=
  if (decide (x8 < (x0.length : Int))) = true then (if x5 = true then (if 0 ≤ x8 then (if x8 < (x0.length : Int) then (if x6 = true then (if 0 ≤ x8 then (if x8 < (x0.length : Int) then (if 0 ≤ x8 then (if x8 < (x0.length : Int) then ((spec_l3Abs.f k  (rd x0 x8)).bind fun t1 => if 0 ≤ x8 then (if x8 < (x1.length : Int) then (J x0 x1 (decide ((rd x0 x8) > 0)) (decide ((rd x0 x8) < 0)) (W (x7 + (W (t1 * (rd x1 x8))))) (W (x8 + 1))) else none) else none) else none) else none) else none) else none) else (if 0 ≤ x8 then (if x8 < (x0.length : Int) then ((spec_l3Abs.f k  (rd x0 x8)).bind fun t2 => if 0 ≤ x8 then (if x8 < (x1.length : Int) then (J x0 x1 (decide ((rd x0 x8) > 0)) false (W (x7 + (W (t2 * (rd x1 x8))))) (W (x8 + 1))) else none) else none) else none) else none)) else none) else none) else (if x6 = true then (if 0 ≤ x8 then (if x8 < (x0.length : Int) then (if 0 ≤ x8 then (if x8 < (x0.length : Int) then ((spec_l3Abs.f k  (rd x0 x8)).bind fun t3 => if 0 ≤ x8 then (if x8 < (x1.length : Int) then (J x0 x1 false (decide ((rd x0 x8) < 0)) (W (x7 + (W (t3 * (rd x1 x8))))) (W (x8 + 1))) else none) else none) else none) else none) else none) else none) else (if 0 ≤ x8 then (if x8 < (x0.length : Int) then ((spec_l3Abs.f k  (rd x0 x8)).bind fun t4 => if 0 ≤ x8 then (if x8 < (x1.length : Int) then (J x0 x1 false false (W (x7 + (W (t4 * (rd x1 x8))))) (W (x8 + 1))) else none) else none) else none) else none))) else (some ((x5, x6, x7, ()), (())))
noncomputable def spec_l6Sum.l5 (k : Nat)  : Nat → (List Int) → (List Int) → Bool → Bool → Int → Int → Option spec_l6Sum.B5
  | 0, _, _, _, _, _, _ => none
  | n + 1, x0, x1, x5, x6, x7, x8 => spec_l6Sum.s5 k (spec_l6Sum.l5 k n) x0 x1 x5 x6 x7 x8
noncomputable def spec_l6Sum.f (k : Nat) (a0 : List Int) (a1 : List Int) : Option Bool :=
  (spec_l6Sum.l5 k k a0 a1 true true 0 0).bind fun x5 => if x5.1.1 = true then (some (decide (x5.1.2.2.1 ≤ 0))) else (if x5.1.2.1 = true then (some (decide (x5.1.2.2.1 ≤ 0))) else (some false))
noncomputable def spec_l6Sum.e (k : Nat) : FE := { α := (List Int) × (List Int) × Unit, β := Bool, args := (lCons (aSl (.i .i64)) (lCons (aSl (.i .i64)) lNil)), ret := (rOne aB), f := fun p => spec_l6Sum.f k p.1 p.2.1 }
noncomputable def spec_l6Sum.c (k : Nat) : List (Nat × CE) := [(194, .fn (spec_l3Abs.e k))]
noncomputable def spec_l6Sum.bd : Code := match Try.f228.body with | some c => c | none => .skip
noncomputable def spec_l6Sum.e5 (k : Nat) : LE := { H := spec_l6Sum.H5, α := spec_l6Sum.A5, β := spec_l6Sum.B5, st := spec_l6Sum.Z5, xt := spec_l6Sum.X5, f := fun p => spec_l6Sum.l5 k k p.1.1 p.1.2.1 p.1.2.2.1 p.1.2.2.2.1 p.1.2.2.2.2.1 p.1.2.2.2.2.2.1 }
noncomputable def spec_l6Sum.g (k : Nat) : List (Nat × LE) := [(5, spec_l6Sum.e5 k)]
theorem spec_l6Sum.t5 (k : Nat) (I : S2 → Option spec_l6Sum.B5) (x0 : List Int) (x1 : List Int) (x5 : Bool) (x6 : Bool) (x7 : Int) (x8 : Int) : stepOf (mkCx Try.prog (spec_l6Sum.c k) (spec_l6Sum.g k) : Cx spec_l6Sum.B5) (loopAt spec_l6Sum.bd 0) spec_l6Sum.H5 spec_l6Sum.X5.dec I (spec_l6Sum.Z5.enc ((x0, x1, x5, x6, x7, x8, ()), (()))) = spec_l6Sum.s5 k (fun x0 x1 x5 x6 x7 x8 => I (spec_l6Sum.Z5.enc ((x0, x1, x5, x6, x7, x8, ()), (())))) x0 x1 x5 x6 x7 x8 := by kernel_rfl
theorem spec_l6Sum.i5 (k : Nat) : ∀ (n : Nat) (x0 : List Int) (x1 : List Int) (x5 : Bool) (x6 : Bool) (x7 : Int) (x8 : Int), iter (evCode (mkCx Try.prog (spec_l6Sum.c k) (spec_l6Sum.g k) : Cx spec_l6Sum.B5) (loopAt spec_l6Sum.bd 0)) spec_l6Sum.H5 spec_l6Sum.X5.dec n (spec_l6Sum.Z5.enc ((x0, x1, x5, x6, x7, x8, ()), (()))) = spec_l6Sum.l5 k n x0 x1 x5 x6 x7 x8
  | 0, _, _, _, _, _, _ => rfl
  | n + 1, x0, x1, x5, x6, x7, x8 => ((iter_step _ _ _ _ n _).trans (spec_l6Sum.t5 k _ x0 x1 x5 x6 x7 x8)).trans (congrArg (fun J => spec_l6Sum.s5 k J x0 x1 x5 x6 x7 x8) (funext fun x0 => funext fun x1 => funext fun x5 => funext fun x6 => funext fun x7 => funext fun x8 => spec_l6Sum.i5 k n x0 x1 x5 x6 x7 x8))
theorem spec_l6Sum.to5 (k : Nat) (hC : AllFun Try.prog (spec_l6Sum.c k)) : LoopTo Try.prog 51 (spec_l6Sum.e5 k) (loopAt spec_l6Sum.bd 0) := loop_to mixed hC (by kernel_rfl) (loops_all 0 (by kernel_rfl) fun i hi => absurd hi (Nat.not_lt_zero i)) fun a b h => ⟨k, (spec_l6Sum.i5 k k a.1.1 a.1.2.1 a.1.2.2.1 a.1.2.2.2.1 a.1.2.2.2.2.1 a.1.2.2.2.2.2.1).trans h⟩
theorem spec_l6Sum.link (k : Nat) (a0 : List Int) (a1 : List Int) : evFun (mkCx Try.prog (spec_l6Sum.c k) (spec_l6Sum.g k) : Cx Bool) Try.f228 ((spec_l6Sum.e k).args.enc (a0, a1, ())) (spec_l6Sum.e k).ret.dec = spec_l6Sum.f k a0 a1 := by kernel_rfl
theorem spec_l6Sum.ok1 (k : Nat) (hC : AllFun Try.prog (spec_l6Sum.c k)) : Fun Try.prog 228 (spec_l6Sum.e k).G := fun_ok mixed (body := spec_l6Sum.bd) Try.func228 (by kernel_rfl) (by kernel_rfl) (by kernel_rfl) hC (loops_all 1 (by kernel_rfl) fun i hi => by obtain rfl : i = 0 := Nat.lt_one_iff.1 hi; exact ⟨spec_l6Sum.e5 k, by kernel_rfl, spec_l6Sum.to5 k hC⟩) (spec_l6Sum.e k) (fun a => Nat.le_of_ble_eq_true (by kernel_rfl)) fun a b h => (spec_l6Sum.link k a.1 a.2.1).trans h
theorem spec_l6Sum.ok (k : Nat) : Fun Try.prog 228 (spec_l6Sum.e k).G := spec_l6Sum.ok1 k ⟨spec_l3Abs.ok k, trivial⟩

noncomputable def spec_l6Clash3.H7 : Hd := ⟨[], [3, 4, 5, 7, 8, 9, 10], [3, 4, 5, 7, 8, 9], [], []⟩
@[reducible] def spec_l6Clash3.A7 : Type := ((Unit × Unit × Unit × Unit × Unit × Unit × Int × Unit) × (S4 × S4 × S4 × S3 × S3 × S3 × Unit))
noncomputable def spec_l6Clash3.Z7 : SC spec_l6Clash3.A7 := sC spec_l6Clash3.H7 (eCons 3 (tRef 3 0) (eCons 4 (tRef 4 0) (eCons 5 (tRef 5 0) (eCons 7 (tRef 7 0) (eCons 8 (tRef 8 0) (eCons 9 (tRef 9 0) (eCons 10 (tP (aI .i64)) eNil))))))) (bCons 3 (xVr cS4) (bCons 4 (xVr cS4) (bCons 5 (xVr cS4) (bCons 7 (xVr cS3) (bCons 8 (xVr cS3) (bCons 9 (xVr cS3) bNil))))))
@[reducible] def spec_l6Clash3.B7 : Type := ((Bool × Unit) × (Unit)) ⊕ ((Unit) × (Unit))
noncomputable def spec_l6Clash3.X7 : XC spec_l6Clash3.B7 := xOr (xRet (sC ⟨[], [6], [], [], []⟩ (eCons 6 (tP aB) eNil) bNil)) (xExit 0 (sC ⟨[], [], [], [], []⟩ eNil bNil))
noncomputable def spec_l6Clash3.s7 (k : Nat)  (J : Int → S4 → S4 → S4 → S3 → S3 → S3 → Option spec_l6Clash3.B7) (x10 : Int) (b3 : S4) (b4 : S4) (b5 : S4) (b7 : S3) (b8 : S3) (b9 : S3) : Option spec_l6Clash3.B7 :=
  if (decide (x10 < 3)) = true then (if 0 ≤ x10 then (if x10 < 3 then (if ((sel [b7.x, b7.y, b7.z] x10) != 0) = true then (if 0 ≤ x10 then (if x10 < 3 then (if 0 ≤ x10 then (if x10 < 3 then (if 0 ≤ x10 then (if x10 < 3 then ((spec_l6Sum.f k  ([(sel [b7.x, b7.y, b7.z] x10), (sel [b8.x, b8.y, b8.z] x10), (sel [b9.x, b9.y, b9.z] x10)] : List Int) ([b3.d, b4.d, b5.d] : List Int)).bind fun t5 => some (.inl ((t5, ()), (())))) else none) else none) else none) else none) else none) else none) else (if 0 ≤ x10 then (if x10 < 3 then (if ((sel [b8.x, b8.y, b8.z] x10) != 0) = true then (if 0 ≤ x10 then (if x10 < 3 then (if 0 ≤ x10 then (if x10 < 3 then (if 0 ≤ x10 then (if x10 < 3 then ((spec_l6Sum.f k  ([(sel [b7.x, b7.y, b7.z] x10), (sel [b8.x, b8.y, b8.z] x10), (sel [b9.x, b9.y, b9.z] x10)] : List Int) ([b3.d, b4.d, b5.d] : List Int)).bind fun t6 => some (.inl ((t6, ()), (())))) else none) else none) else none) else none) else none) else none) else (if 0 ≤ x10 then (if x10 < 3 then (if ((sel [b9.x, b9.y, b9.z] x10) != 0) = true then (if 0 ≤ x10 then (if x10 < 3 then (if 0 ≤ x10 then (if x10 < 3 then (if 0 ≤ x10 then (if x10 < 3 then ((spec_l6Sum.f k  ([(sel [b7.x, b7.y, b7.z] x10), (sel [b8.x, b8.y, b8.z] x10), (sel [b9.x, b9.y, b9.z] x10)] : List Int) ([b3.d, b4.d, b5.d] : List Int)).bind fun t7 => some (.inl ((t7, ()), (())))) else none) else none) else none) else none) else none) else none) else (J (W (x10 + 1)) b3 b4 b5 b7 b8 b9)) else none) else none)) else none) else none)) else none) else none) else (some (.inr ((()), (()))))
noncomputable def spec_l6Clash3.l7 (k : Nat)  : Nat → Int → S4 → S4 → S4 → S3 → S3 → S3 → Option spec_l6Clash3.B7
  | 0, _, _, _, _, _, _, _ => none
  | n + 1, x10, b3, b4, b5, b7, b8, b9 => spec_l6Clash3.s7 k (spec_l6Clash3.l7 k n) x10 b3 b4 b5 b7 b8 b9
noncomputable def spec_l6Clash3.f (k : Nat) (a0 : S4) (a1 : S4) (a2 : S4) : Option Bool :=
  (spec_l4Det3.f k  a0 a1 a2).bind fun t1 => if (t1 != 0) = true then (some false) else ((spec_l4Cross.f k  a1 a2).bind fun t2 => (spec_l4Cross.f k  a2 a0).bind fun t3 => (spec_l4Cross.f k  a0 a1).bind fun t4 => (spec_l6Clash3.l7 k k 0 a0 a1 a2 t2 t3 t4).bind fun | .inl r8 => (some r8.1.1) | .inr x9 => (some false))
noncomputable def spec_l6Clash3.e (k : Nat) : FE := { α := S4 × S4 × S4 × Unit, β := Bool, args := (lCons aS4 (lCons aS4 (lCons aS4 lNil))), ret := (rOne aB), f := fun p => spec_l6Clash3.f k p.1 p.2.1 p.2.2.1 }
noncomputable def spec_l6Clash3.c (k : Nat) : List (Nat × CE) := [(137, .fn (spec_l4Det3.e k)), (193, .fn (spec_l4Cross.e k)), (228, .fn (spec_l6Sum.e k))]
noncomputable def spec_l6Clash3.bd : Code := match Try.f209.body with | some c => c | none => .skip
noncomputable def spec_l6Clash3.e7 (k : Nat) : LE := { H := spec_l6Clash3.H7, α := spec_l6Clash3.A7, β := spec_l6Clash3.B7, st := spec_l6Clash3.Z7, xt := spec_l6Clash3.X7, f := fun p => spec_l6Clash3.l7 k k p.1.2.2.2.2.2.2.1 p.2.1 p.2.2.1 p.2.2.2.1 p.2.2.2.2.1 p.2.2.2.2.2.1 p.2.2.2.2.2.2.1 }
noncomputable def spec_l6Clash3.g (k : Nat) : List (Nat × LE) := [(7, spec_l6Clash3.e7 k)]
theorem spec_l6Clash3.t7 (k : Nat) (I : S2 → Option spec_l6Clash3.B7) (x10 : Int) (b3 : S4) (b4 : S4) (b5 : S4) (b7 : S3) (b8 : S3) (b9 : S3) : stepOf (mkCx Try.prog (spec_l6Clash3.c k) (spec_l6Clash3.g k) : Cx spec_l6Clash3.B7) (loopAt spec_l6Clash3.bd 0) spec_l6Clash3.H7 spec_l6Clash3.X7.dec I (spec_l6Clash3.Z7.enc (((), (), (), (), (), (), x10, ()), (b3, b4, b5, b7, b8, b9, ()))) = spec_l6Clash3.s7 k (fun x10 b3 b4 b5 b7 b8 b9 => I (spec_l6Clash3.Z7.enc (((), (), (), (), (), (), x10, ()), (b3, b4, b5, b7, b8, b9, ())))) x10 b3 b4 b5 b7 b8 b9 := by kernel_rfl
theorem spec_l6Clash3.i7 (k : Nat) : ∀ (n : Nat) (x10 : Int) (b3 : S4) (b4 : S4) (b5 : S4) (b7 : S3) (b8 : S3) (b9 : S3), iter (evCode (mkCx Try.prog (spec_l6Clash3.c k) (spec_l6Clash3.g k) : Cx spec_l6Clash3.B7) (loopAt spec_l6Clash3.bd 0)) spec_l6Clash3.H7 spec_l6Clash3.X7.dec n (spec_l6Clash3.Z7.enc (((), (), (), (), (), (), x10, ()), (b3, b4, b5, b7, b8, b9, ()))) = spec_l6Clash3.l7 k n x10 b3 b4 b5 b7 b8 b9
  | 0, _, _, _, _, _, _, _ => rfl
  | n + 1, x10, b3, b4, b5, b7, b8, b9 => ((iter_step _ _ _ _ n _).trans (spec_l6Clash3.t7 k _ x10 b3 b4 b5 b7 b8 b9)).trans (congrArg (fun J => spec_l6Clash3.s7 k J x10 b3 b4 b5 b7 b8 b9) (funext fun x10 => funext fun b3 => funext fun b4 => funext fun b5 => funext fun b7 => funext fun b8 => funext fun b9 => spec_l6Clash3.i7 k n x10 b3 b4 b5 b7 b8 b9))
theorem spec_l6Clash3.to7 (k : Nat) (hC : AllFun Try.prog (spec_l6Clash3.c k)) : LoopTo Try.prog 63 (spec_l6Clash3.e7 k) (loopAt spec_l6Clash3.bd 0) := loop_to mixed hC (by kernel_rfl) (loops_all 0 (by kernel_rfl) fun i hi => absurd hi (Nat.not_lt_zero i)) fun a b h => ⟨k, (spec_l6Clash3.i7 k k a.1.2.2.2.2.2.2.1 a.2.1 a.2.2.1 a.2.2.2.1 a.2.2.2.2.1 a.2.2.2.2.2.1 a.2.2.2.2.2.2.1).trans h⟩
theorem spec_l6Clash3.link (k : Nat) (a0 : S4) (a1 : S4) (a2 : S4) : evFun (mkCx Try.prog (spec_l6Clash3.c k) (spec_l6Clash3.g k) : Cx Bool) Try.f209 ((spec_l6Clash3.e k).args.enc (a0, a1, a2, ())) (spec_l6Clash3.e k).ret.dec = spec_l6Clash3.f k a0 a1 a2 := by kernel_rfl
theorem spec_l6Clash3.ok1 (k : Nat) (hC : AllFun Try.prog (spec_l6Clash3.c k)) : Fun Try.prog 209 (spec_l6Clash3.e k).G := fun_ok mixed (body := spec_l6Clash3.bd) Try.func209 (by kernel_rfl) (by kernel_rfl) (by kernel_rfl) hC (loops_all 1 (by kernel_rfl) fun i hi => by obtain rfl : i = 0 := Nat.lt_one_iff.1 hi; exact ⟨spec_l6Clash3.e7 k, by kernel_rfl, spec_l6Clash3.to7 k hC⟩) (spec_l6Clash3.e k) (fun a => Nat.le_of_ble_eq_true (by kernel_rfl)) fun a b h => (spec_l6Clash3.link k a.1 a.2.1 a.2.2.1).trans h
theorem spec_l6Clash3.ok (k : Nat) : Fun Try.prog 209 (spec_l6Clash3.e k).G := spec_l6Clash3.ok1 k ⟨spec_l4Det3.ok k, spec_l4Cross.ok k, spec_l6Sum.ok k, trivial⟩

noncomputable def spec_l6Clash4.f (k : Nat) (a0 : S4) (a1 : S4) (a2 : S4) (a3 : S4) : Option Bool :=
  (spec_l4Det3.f k  a1 a2 a3).bind fun t1 => (spec_l4Det3.f k  a0 a2 a3).bind fun t2 => (spec_l4Det3.f k  a0 a1 a3).bind fun t3 => (spec_l4Det3.f k  a0 a1 a2).bind fun t4 => (spec_l6Sum.f k  ([t1, (W (0 - t2)), t3, (W (0 - t4))] : List Int) ([a0.d, a1.d, a2.d, a3.d] : List Int)).bind fun t5 => some t5
noncomputable def spec_l6Clash4.e (k : Nat) : FE := { α := S4 × S4 × S4 × S4 × Unit, β := Bool, args := (lCons aS4 (lCons aS4 (lCons aS4 (lCons aS4 lNil)))), ret := (rOne aB), f := fun p => spec_l6Clash4.f k p.1 p.2.1 p.2.2.1 p.2.2.2.1 }
noncomputable def spec_l6Clash4.c (k : Nat) : List (Nat × CE) := [(137, .fn (spec_l4Det3.e k)), (228, .fn (spec_l6Sum.e k))]
noncomputable def spec_l6Clash4.bd : Code := match Try.f210.body with | some c => c | none => .skip
noncomputable def spec_l6Clash4.g (k : Nat) : List (Nat × LE) := []
theorem spec_l6Clash4.link (k : Nat) (a0 : S4) (a1 : S4) (a2 : S4) (a3 : S4) : evFun (mkCx Try.prog (spec_l6Clash4.c k) (spec_l6Clash4.g k) : Cx Bool) Try.f210 ((spec_l6Clash4.e k).args.enc (a0, a1, a2, a3, ())) (spec_l6Clash4.e k).ret.dec = spec_l6Clash4.f k a0 a1 a2 a3 := by kernel_rfl
theorem spec_l6Clash4.ok1 (k : Nat) (hC : AllFun Try.prog (spec_l6Clash4.c k)) : Fun Try.prog 210 (spec_l6Clash4.e k).G := fun_ok mixed (body := spec_l6Clash4.bd) Try.func210 (by kernel_rfl) (by kernel_rfl) (by kernel_rfl) hC (loops_all 0 (by kernel_rfl) fun i hi => absurd hi (Nat.not_lt_zero i)) (spec_l6Clash4.e k) (fun a => Nat.le_of_ble_eq_true (by kernel_rfl)) fun a b h => (spec_l6Clash4.link k a.1 a.2.1 a.2.2.1 a.2.2.2.1).trans h
theorem spec_l6Clash4.ok (k : Nat) : Fun Try.prog 210 (spec_l6Clash4.e k).G := spec_l6Clash4.ok1 k ⟨spec_l4Det3.ok k, spec_l6Sum.ok k, trivial⟩

noncomputable def spec_l6With.H13 : Hd := ⟨[], [0, 3, 5, 6, 7, 8], [3], [], []⟩
@[reducible] def spec_l6With.A13 : Type := (((List S4) × Unit × Int × Int × Int × Int × Unit) × (S4 × Unit))
noncomputable def spec_l6With.Z13 : SC spec_l6With.A13 := sC spec_l6With.H13 (eCons 0 (tP (aSl .s4)) (eCons 3 (tRef 3 0) (eCons 5 (tP (aI .i64)) (eCons 6 (tP (aI .i64)) (eCons 7 (tP (aI .i64)) (eCons 8 (tP (aI .i64)) eNil)))))) (bCons 3 (xVr cS4) bNil)
@[reducible] def spec_l6With.B13 : Type := ((Bool × Unit) × (Unit)) ⊕ (((List S4) × Unit × Int × Int × Int × Unit) × (S4 × Unit))
noncomputable def spec_l6With.X13 : XC spec_l6With.B13 := xOr (xRet (sC ⟨[], [4], [], [], []⟩ (eCons 4 (tP aB) eNil) bNil)) (xExit 4 (sC ⟨[], [0, 3, 5, 6, 7], [3], [], []⟩ (eCons 0 (tP (aSl .s4)) (eCons 3 (tRef 3 0) (eCons 5 (tP (aI .i64)) (eCons 6 (tP (aI .i64)) (eCons 7 (tP (aI .i64)) eNil))))) (bCons 3 (xVr cS4) bNil)))
noncomputable def spec_l6With.s13 (k : Nat)  (J : (List S4) → Int → Int → Int → Int → S4 → Option spec_l6With.B13) (x0 : List S4) (x5 : Int) (x6 : Int) (x7 : Int) (x8 : Int) (b3 : S4) : Option spec_l6With.B13 :=
  if (decide (x8 < x5)) = true then (if 0 ≤ x6 then (if x6 < (x0.length : Int) then (if 0 ≤ x7 then (if x7 < (x0.length : Int) then (if 0 ≤ x8 then (if x8 < (x0.length : Int) then ((spec_l6Clash4.f k  (rd x0 x6) (rd x0 x7) (rd x0 x8) b3).bind fun t3 => if t3 = true then (some (.inl ((true, ()), (())))) else (J x0 x5 x6 x7 (W (x8 + 1)) b3)) else none) else none) else none) else none) else none) else none) else (some (.inr ((x0, (), x5, x6, x7, ()), (b3, ()))))
noncomputable def spec_l6With.l13 (k : Nat)  : Nat → (List S4) → Int → Int → Int → Int → S4 → Option spec_l6With.B13
  | 0, _, _, _, _, _, _ => none
  | n + 1, x0, x5, x6, x7, x8, b3 => spec_l6With.s13 k (spec_l6With.l13 k n) x0 x5 x6 x7 x8 b3
noncomputable def spec_l6With.H8 : Hd := ⟨[], [0, 3, 5, 6, 7], [3], [], []⟩
@[reducible] def spec_l6With.A8 : Type := (((List S4) × Unit × Int × Int × Int × Unit) × (S4 × Unit))
noncomputable def spec_l6With.Z8 : SC spec_l6With.A8 := sC spec_l6With.H8 (eCons 0 (tP (aSl .s4)) (eCons 3 (tRef 3 0) (eCons 5 (tP (aI .i64)) (eCons 6 (tP (aI .i64)) (eCons 7 (tP (aI .i64)) eNil))))) (bCons 3 (xVr cS4) bNil)
@[reducible] def spec_l6With.B8 : Type := ((Bool × Unit) × (Unit)) ⊕ (((List S4) × Unit × Int × Int × Unit) × (S4 × Unit))
noncomputable def spec_l6With.X8 : XC spec_l6With.B8 := xOr (xRet (sC ⟨[], [4], [], [], []⟩ (eCons 4 (tP aB) eNil) bNil)) (xExit 2 (sC ⟨[], [0, 3, 5, 6], [3], [], []⟩ (eCons 0 (tP (aSl .s4)) (eCons 3 (tRef 3 0) (eCons 5 (tP (aI .i64)) (eCons 6 (tP (aI .i64)) eNil)))) (bCons 3 (xVr cS4) bNil)))
noncomputable def spec_l6With.s8 (k : Nat)  (J : (List S4) → Int → Int → Int → S4 → Option spec_l6With.B8) (x0 : List S4) (x5 : Int) (x6 : Int) (x7 : Int) (b3 : S4) : Option spec_l6With.B8 :=
  if (decide (x7 < x5)) = true then (if 0 ≤ x6 then (if x6 < (x0.length : Int) then (if 0 ≤ x7 then (if x7 < (x0.length : Int) then ((spec_l6Clash3.f k  (rd x0 x6) (rd x0 x7) b3).bind fun t2 => if t2 = true then (some (.inl ((true, ()), (())))) else ((spec_l6With.l13 k k x0 x5 x6 x7 (W (x7 + 1)) b3).bind fun | .inl r4 => (some (.inl ((r4.1.1, ()), (())))) | .inr x5 => (J x5.1.1 x5.1.2.2.1 x5.1.2.2.2.1 (W (x5.1.2.2.2.2.1 + 1)) x5.2.1))) else none) else none) else none) else none) else (some (.inr ((x0, (), x5, x6, ()), (b3, ()))))
noncomputable def spec_l6With.l8 (k : Nat)  : Nat → (List S4) → Int → Int → Int → S4 → Option spec_l6With.B8
  | 0, _, _, _, _, _ => none
  | n + 1, x0, x5, x6, x7, b3 => spec_l6With.s8 k (spec_l6With.l8 k n) x0 x5 x6 x7 b3
noncomputable def spec_l6With.H3 : Hd := ⟨[], [0, 3, 5, 6], [3], [], []⟩
@[reducible] def spec_l6With.A3 : Type := (((List S4) × Unit × Int × Int × Unit) × (S4 × Unit))
noncomputable def spec_l6With.Z3 : SC spec_l6With.A3 := sC spec_l6With.H3 (eCons 0 (tP (aSl .s4)) (eCons 3 (tRef 3 0) (eCons 5 (tP (aI .i64)) (eCons 6 (tP (aI .i64)) eNil)))) (bCons 3 (xVr cS4) bNil)
@[reducible] def spec_l6With.B3 : Type := ((Bool × Unit) × (Unit)) ⊕ ((Unit) × (Unit))
noncomputable def spec_l6With.X3 : XC spec_l6With.B3 := xOr (xRet (sC ⟨[], [4], [], [], []⟩ (eCons 4 (tP aB) eNil) bNil)) (xExit 0 (sC ⟨[], [], [], [], []⟩ eNil bNil))
noncomputable def spec_l6With.s3 (k : Nat)  (J : (List S4) → Int → Int → S4 → Option spec_l6With.B3) (x0 : List S4) (x5 : Int) (x6 : Int) (b3 : S4) : Option spec_l6With.B3 :=
  if (decide (x6 < x5)) = true then (if 0 ≤ x6 then (if x6 < (x0.length : Int) then ((spec_l6Clash2.f k  (rd x0 x6) b3).bind fun t1 => if t1 = true then (some (.inl ((true, ()), (())))) else ((spec_l6With.l8 k k x0 x5 x6 (W (x6 + 1)) b3).bind fun | .inl r6 => (some (.inl ((r6.1.1, ()), (())))) | .inr x7 => (J x7.1.1 x7.1.2.2.1 (W (x7.1.2.2.2.1 + 1)) x7.2.1))) else none) else none) else (some (.inr ((()), (()))))
noncomputable def spec_l6With.l3 (k : Nat)  : Nat → (List S4) → Int → Int → S4 → Option spec_l6With.B3
  | 0, _, _, _, _ => none
  | n + 1, x0, x5, x6, b3 => spec_l6With.s3 k (spec_l6With.l3 k n) x0 x5 x6 b3
noncomputable def spec_l6With.f (k : Nat) (a0 : List S4) (a1 : S4) : Option Bool :=
  (spec_l6With.l3 k k a0 (a0.length : Int) 0 a1).bind fun | .inl r8 => (some r8.1.1) | .inr x9 => (some false)
noncomputable def spec_l6With.e (k : Nat) : FE := { α := (List S4) × S4 × Unit, β := Bool, args := (lCons (aSl .s4) (lCons aS4 lNil)), ret := (rOne aB), f := fun p => spec_l6With.f k p.1 p.2.1 }
noncomputable def spec_l6With.c (k : Nat) : List (Nat × CE) := [(208, .fn (spec_l6Clash2.e k)), (209, .fn (spec_l6Clash3.e k)), (210, .fn (spec_l6Clash4.e k))]
noncomputable def spec_l6With.bd : Code := match Try.f163.body with | some c => c | none => .skip
noncomputable def spec_l6With.e13 (k : Nat) : LE := { H := spec_l6With.H13, α := spec_l6With.A13, β := spec_l6With.B13, st := spec_l6With.Z13, xt := spec_l6With.X13, f := fun p => spec_l6With.l13 k k p.1.1 p.1.2.2.1 p.1.2.2.2.1 p.1.2.2.2.2.1 p.1.2.2.2.2.2.1 p.2.1 }
noncomputable def spec_l6With.e8 (k : Nat) : LE := { H := spec_l6With.H8, α := spec_l6With.A8, β := spec_l6With.B8, st := spec_l6With.Z8, xt := spec_l6With.X8, f := fun p => spec_l6With.l8 k k p.1.1 p.1.2.2.1 p.1.2.2.2.1 p.1.2.2.2.2.1 p.2.1 }
noncomputable def spec_l6With.e3 (k : Nat) : LE := { H := spec_l6With.H3, α := spec_l6With.A3, β := spec_l6With.B3, st := spec_l6With.Z3, xt := spec_l6With.X3, f := fun p => spec_l6With.l3 k k p.1.1 p.1.2.2.1 p.1.2.2.2.1 p.2.1 }
noncomputable def spec_l6With.g (k : Nat) : List (Nat × LE) := [(13, spec_l6With.e13 k), (8, spec_l6With.e8 k), (3, spec_l6With.e3 k)]
theorem spec_l6With.t13 (k : Nat) (I : S2 → Option spec_l6With.B13) (x0 : List S4) (x5 : Int) (x6 : Int) (x7 : Int) (x8 : Int) (b3 : S4) : stepOf (mkCx Try.prog (spec_l6With.c k) (spec_l6With.g k) : Cx spec_l6With.B13) (loopAt (loopAt (loopAt spec_l6With.bd 0) 0) 0) spec_l6With.H13 spec_l6With.X13.dec I (spec_l6With.Z13.enc ((x0, (), x5, x6, x7, x8, ()), (b3, ()))) = spec_l6With.s13 k (fun x0 x5 x6 x7 x8 b3 => I (spec_l6With.Z13.enc ((x0, (), x5, x6, x7, x8, ()), (b3, ())))) x0 x5 x6 x7 x8 b3 := by kernel_rfl
theorem spec_l6With.i13 (k : Nat) : ∀ (n : Nat) (x0 : List S4) (x5 : Int) (x6 : Int) (x7 : Int) (x8 : Int) (b3 : S4), iter (evCode (mkCx Try.prog (spec_l6With.c k) (spec_l6With.g k) : Cx spec_l6With.B13) (loopAt (loopAt (loopAt spec_l6With.bd 0) 0) 0)) spec_l6With.H13 spec_l6With.X13.dec n (spec_l6With.Z13.enc ((x0, (), x5, x6, x7, x8, ()), (b3, ()))) = spec_l6With.l13 k n x0 x5 x6 x7 x8 b3
  | 0, _, _, _, _, _, _ => rfl
  | n + 1, x0, x5, x6, x7, x8, b3 => ((iter_step _ _ _ _ n _).trans (spec_l6With.t13 k _ x0 x5 x6 x7 x8 b3)).trans (congrArg (fun J => spec_l6With.s13 k J x0 x5 x6 x7 x8 b3) (funext fun x0 => funext fun x5 => funext fun x6 => funext fun x7 => funext fun x8 => funext fun b3 => spec_l6With.i13 k n x0 x5 x6 x7 x8 b3))
theorem spec_l6With.t8 (k : Nat) (I : S2 → Option spec_l6With.B8) (x0 : List S4) (x5 : Int) (x6 : Int) (x7 : Int) (b3 : S4) : stepOf (mkCx Try.prog (spec_l6With.c k) (spec_l6With.g k) : Cx spec_l6With.B8) (loopAt (loopAt spec_l6With.bd 0) 0) spec_l6With.H8 spec_l6With.X8.dec I (spec_l6With.Z8.enc ((x0, (), x5, x6, x7, ()), (b3, ()))) = spec_l6With.s8 k (fun x0 x5 x6 x7 b3 => I (spec_l6With.Z8.enc ((x0, (), x5, x6, x7, ()), (b3, ())))) x0 x5 x6 x7 b3 := by kernel_rfl
theorem spec_l6With.i8 (k : Nat) : ∀ (n : Nat) (x0 : List S4) (x5 : Int) (x6 : Int) (x7 : Int) (b3 : S4), iter (evCode (mkCx Try.prog (spec_l6With.c k) (spec_l6With.g k) : Cx spec_l6With.B8) (loopAt (loopAt spec_l6With.bd 0) 0)) spec_l6With.H8 spec_l6With.X8.dec n (spec_l6With.Z8.enc ((x0, (), x5, x6, x7, ()), (b3, ()))) = spec_l6With.l8 k n x0 x5 x6 x7 b3
  | 0, _, _, _, _, _ => rfl
  | n + 1, x0, x5, x6, x7, b3 => ((iter_step _ _ _ _ n _).trans (spec_l6With.t8 k _ x0 x5 x6 x7 b3)).trans (congrArg (fun J => spec_l6With.s8 k J x0 x5 x6 x7 b3) (funext fun x0 => funext fun x5 => funext fun x6 => funext fun x7 => funext fun b3 => spec_l6With.i8 k n x0 x5 x6 x7 b3))
theorem spec_l6With.t3 (k : Nat) (I : S2 → Option spec_l6With.B3) (x0 : List S4) (x5 : Int) (x6 : Int) (b3 : S4) : stepOf (mkCx Try.prog (spec_l6With.c k) (spec_l6With.g k) : Cx spec_l6With.B3) (loopAt spec_l6With.bd 0) spec_l6With.H3 spec_l6With.X3.dec I (spec_l6With.Z3.enc ((x0, (), x5, x6, ()), (b3, ()))) = spec_l6With.s3 k (fun x0 x5 x6 b3 => I (spec_l6With.Z3.enc ((x0, (), x5, x6, ()), (b3, ())))) x0 x5 x6 b3 := by kernel_rfl
theorem spec_l6With.i3 (k : Nat) : ∀ (n : Nat) (x0 : List S4) (x5 : Int) (x6 : Int) (b3 : S4), iter (evCode (mkCx Try.prog (spec_l6With.c k) (spec_l6With.g k) : Cx spec_l6With.B3) (loopAt spec_l6With.bd 0)) spec_l6With.H3 spec_l6With.X3.dec n (spec_l6With.Z3.enc ((x0, (), x5, x6, ()), (b3, ()))) = spec_l6With.l3 k n x0 x5 x6 b3
  | 0, _, _, _, _ => rfl
  | n + 1, x0, x5, x6, b3 => ((iter_step _ _ _ _ n _).trans (spec_l6With.t3 k _ x0 x5 x6 b3)).trans (congrArg (fun J => spec_l6With.s3 k J x0 x5 x6 b3) (funext fun x0 => funext fun x5 => funext fun x6 => funext fun b3 => spec_l6With.i3 k n x0 x5 x6 b3))
theorem spec_l6With.to13 (k : Nat) (hC : AllFun Try.prog (spec_l6With.c k)) : LoopTo Try.prog 60 (spec_l6With.e13 k) (loopAt (loopAt (loopAt spec_l6With.bd 0) 0) 0) := loop_to mixed hC (by kernel_rfl) (loops_all 0 (by kernel_rfl) fun i hi => absurd hi (Nat.not_lt_zero i)) fun a b h => ⟨k, (spec_l6With.i13 k k a.1.1 a.1.2.2.1 a.1.2.2.2.1 a.1.2.2.2.2.1 a.1.2.2.2.2.2.1 a.2.1).trans h⟩
theorem spec_l6With.to8 (k : Nat) (hC : AllFun Try.prog (spec_l6With.c k)) : LoopTo Try.prog 60 (spec_l6With.e8 k) (loopAt (loopAt spec_l6With.bd 0) 0) := loop_to mixed hC (by kernel_rfl) (loops_all 1 (by kernel_rfl) fun i hi => by obtain rfl : i = 0 := Nat.lt_one_iff.1 hi; exact ⟨spec_l6With.e13 k, by kernel_rfl, spec_l6With.to13 k hC⟩) fun a b h => ⟨k, (spec_l6With.i8 k k a.1.1 a.1.2.2.1 a.1.2.2.2.1 a.1.2.2.2.2.1 a.2.1).trans h⟩
theorem spec_l6With.to3 (k : Nat) (hC : AllFun Try.prog (spec_l6With.c k)) : LoopTo Try.prog 60 (spec_l6With.e3 k) (loopAt spec_l6With.bd 0) := loop_to mixed hC (by kernel_rfl) (loops_all 1 (by kernel_rfl) fun i hi => by obtain rfl : i = 0 := Nat.lt_one_iff.1 hi; exact ⟨spec_l6With.e8 k, by kernel_rfl, spec_l6With.to8 k hC⟩) fun a b h => ⟨k, (spec_l6With.i3 k k a.1.1 a.1.2.2.1 a.1.2.2.2.1 a.2.1).trans h⟩
theorem spec_l6With.link (k : Nat) (a0 : List S4) (a1 : S4) : evFun (mkCx Try.prog (spec_l6With.c k) (spec_l6With.g k) : Cx Bool) Try.f163 ((spec_l6With.e k).args.enc (a0, a1, ())) (spec_l6With.e k).ret.dec = spec_l6With.f k a0 a1 := by kernel_rfl
theorem spec_l6With.ok1 (k : Nat) (hC : AllFun Try.prog (spec_l6With.c k)) : Fun Try.prog 163 (spec_l6With.e k).G := fun_ok mixed (body := spec_l6With.bd) Try.func163 (by kernel_rfl) (by kernel_rfl) (by kernel_rfl) hC (loops_all 1 (by kernel_rfl) fun i hi => by obtain rfl : i = 0 := Nat.lt_one_iff.1 hi; exact ⟨spec_l6With.e3 k, by kernel_rfl, spec_l6With.to3 k hC⟩) (spec_l6With.e k) (fun a => Nat.le_of_ble_eq_true (by kernel_rfl)) fun a b h => (spec_l6With.link k a.1 a.2.1).trans h
theorem spec_l6With.ok (k : Nat) : Fun Try.prog 163 (spec_l6With.e k).G := spec_l6With.ok1 k ⟨spec_l6Clash2.ok k, spec_l6Clash3.ok k, spec_l6Clash4.ok k, trivial⟩

noncomputable def spec_l3Flip.f (k : Nat) (a0 : S4) : Option S4 :=
  some (⟨(W (0 - a0.a)), (W (0 - a0.b)), (W (0 - a0.c)), (W (0 - a0.d))⟩ : S4)
noncomputable def spec_l3Flip.e (k : Nat) : FE := { α := S4 × Unit, β := S4, args := (lCons aS4 lNil), ret := (rOne aS4), f := fun p => spec_l3Flip.f k p.1 }
noncomputable def spec_l3Flip.c (k : Nat) : List (Nat × CE) := []
noncomputable def spec_l3Flip.bd : Code := match Try.f164.body with | some c => c | none => .skip
noncomputable def spec_l3Flip.g (k : Nat) : List (Nat × LE) := []
theorem spec_l3Flip.link (k : Nat) (a0 : S4) : evFun (mkCx Try.prog (spec_l3Flip.c k) (spec_l3Flip.g k) : Cx S4) Try.f164 ((spec_l3Flip.e k).args.enc (a0, ())) (spec_l3Flip.e k).ret.dec = spec_l3Flip.f k a0 := by kernel_rfl
theorem spec_l3Flip.ok1 (k : Nat) (hC : AllFun Try.prog (spec_l3Flip.c k)) : Fun Try.prog 164 (spec_l3Flip.e k).G := fun_ok mixed (body := spec_l3Flip.bd) Try.func164 (by kernel_rfl) (by kernel_rfl) (by kernel_rfl) hC (loops_all 0 (by kernel_rfl) fun i hi => absurd hi (Nat.not_lt_zero i)) (spec_l3Flip.e k) (fun a => Nat.le_of_ble_eq_true (by kernel_rfl)) fun a b h => (spec_l3Flip.link k a.1).trans h
theorem spec_l3Flip.ok (k : Nat) : Fun Try.prog 164 (spec_l3Flip.e k).G := spec_l3Flip.ok1 k trivial

noncomputable def spec_l8Look.fs (k : Nat) (self167 : Tree → (List S4) → Option Bool) (a0 : Tree) (a1 : List S4) : Option Bool :=
  (spec_l8Leaf.f k  (T1 a0)).bind fun t1 => if t1 = true then (some ((a0.p.a == 0) && ((a0.p.b == 0) && ((a0.p.c == 0) && (a0.p.d == 0))))) else (if ((a0.kids.length : Int) != 2) = true then (some false) else (if a0.inn = true then (some false) else ((spec_PlaneOk.f k  a0.p).bind fun t2 => if (!t2) = true then (some false) else (if ((a1.length : Int) == 24) = true then (some false) else ((spec_l6With.f k  a1 a0.p).bind fun t3 => if t3 = true then (some false) else ((spec_l3Flip.f k  a0.p).bind fun t4 => (spec_l6With.f k  a1 t4).bind fun t5 => if t5 = true then (some false) else (if 0 ≤ 0 then (if 0 < (a0.kids.length : Int) then ((spec_l8Path.f k  a1 a0.p).bind fun t6 => (self167  (T1 (rd a0.kids 0)) t6).bind fun t7 => if t7 = true then (if 0 ≤ 1 then (if 1 < (a0.kids.length : Int) then ((spec_l3Flip.f k  a0.p).bind fun t8 => (spec_l8Path.f k  a1 t8).bind fun t9 => (self167  (T1 (rd a0.kids 1)) t9).bind fun t10 => some t10) else none) else none) else (some false)) else none) else none)))))))
noncomputable def spec_l8Look.f : Nat → Tree → (List S4) → Option Bool
  | 0, _, _ => none
  | k + 1, a0, a1 => spec_l8Look.fs k (spec_l8Look.f k) a0 a1
theorem spec_l8Look.fS (k : Nat) (a0 : Tree) (a1 : List S4) : spec_l8Look.f (k + 1) a0 a1 = spec_l8Look.fs k (spec_l8Look.f k) a0 a1 := by first | rfl | rw [spec_l8Look.f]
noncomputable def spec_l8Look.e (k : Nat) : FE := { α := Tree × (List S4) × Unit, β := Bool, args := (lCons aTree (lCons (aSl .s4) lNil)), ret := (rOne aB), f := fun p => spec_l8Look.f k p.1 p.2.1 }
noncomputable def spec_l8Look.c (k : Nat) : List (Nat × CE) := [(168, .fn (spec_l8Leaf.e k)), (67, .fn (spec_PlaneOk.e k)), (163, .fn (spec_l6With.e k)), (164, .fn (spec_l3Flip.e k)), (102, .fn (spec_l8Path.e k)), (167, .fn (spec_l8Look.e k))]
noncomputable def spec_l8Look.bd : Code := match Try.f167.body with | some c => c | none => .skip
noncomputable def spec_l8Look.g (k : Nat) : List (Nat × LE) := []
theorem spec_l8Look.link (k : Nat) (a0 : Tree) (a1 : List S4) : evFun (mkCx Try.prog (spec_l8Look.c k) (spec_l8Look.g k) : Cx Bool) Try.f167 ((spec_l8Look.e (k + 1)).args.enc (a0, a1, ())) (spec_l8Look.e (k + 1)).ret.dec = spec_l8Look.fs k (spec_l8Look.f k) a0 a1 := by kernel_rfl
theorem spec_l8Look.ok1 (k : Nat) (hC : AllFun Try.prog (spec_l8Look.c k)) : Fun Try.prog 167 (spec_l8Look.e (k + 1)).G := fun_ok mixed (body := spec_l8Look.bd) Try.func167 (by kernel_rfl) (by kernel_rfl) (by kernel_rfl) hC (loops_all 0 (by kernel_rfl) fun i hi => absurd hi (Nat.not_lt_zero i)) (spec_l8Look.e (k + 1)) (fun a => Nat.le_of_ble_eq_true (by kernel_rfl)) fun a b h => (spec_l8Look.link k a.1 a.2.1).trans ((spec_l8Look.fS k a.1 a.2.1).symm.trans h)
theorem spec_l8Look.ok : ∀ k, Fun Try.prog 167 (spec_l8Look.e k).G
  | 0 => fun_zero (by kernel_rfl) fun _ => rfl
  | k + 1 => spec_l8Look.ok1 k ⟨spec_l8Leaf.ok k, spec_PlaneOk.ok k, spec_l6With.ok k, spec_l3Flip.ok k, spec_l8Path.ok k, spec_l8Look.ok k, trivial⟩

noncomputable def spec_SolidOk.f (k : Nat) (a0 : Tree) : Option Bool :=
  (spec_l8Count.f k  (T1 a0) 301).bind fun t1 => if (decide (t1 ≤ 300)) = true then ((spec_l8Look.f k  (T1 a0) ([] : List S4)).bind fun t2 => some t2) else (some false)
noncomputable def spec_SolidOk.e (k : Nat) : FE := { α := Tree × Unit, β := Bool, args := (lCons aTree lNil), ret := (rOne aB), f := fun p => spec_SolidOk.f k p.1 }
noncomputable def spec_SolidOk.c (k : Nat) : List (Nat × CE) := [(166, .fn (spec_l8Count.e k)), (167, .fn (spec_l8Look.e k))]
noncomputable def spec_SolidOk.bd : Code := match Try.f105.body with | some c => c | none => .skip
noncomputable def spec_SolidOk.g (k : Nat) : List (Nat × LE) := []
theorem spec_SolidOk.link (k : Nat) (a0 : Tree) : evFun (mkCx Try.prog (spec_SolidOk.c k) (spec_SolidOk.g k) : Cx Bool) Try.f105 ((spec_SolidOk.e k).args.enc (a0, ())) (spec_SolidOk.e k).ret.dec = spec_SolidOk.f k a0 := by kernel_rfl
theorem spec_SolidOk.ok1 (k : Nat) (hC : AllFun Try.prog (spec_SolidOk.c k)) : Fun Try.prog 105 (spec_SolidOk.e k).G := fun_ok mixed (body := spec_SolidOk.bd) Try.func105 (by kernel_rfl) (by kernel_rfl) (by kernel_rfl) hC (loops_all 0 (by kernel_rfl) fun i hi => absurd hi (Nat.not_lt_zero i)) (spec_SolidOk.e k) (fun a => Nat.le_of_ble_eq_true (by kernel_rfl)) fun a b h => (spec_SolidOk.link k a.1).trans h
theorem spec_SolidOk.ok (k : Nat) : Fun Try.prog 105 (spec_SolidOk.e k).G := spec_SolidOk.ok1 k ⟨spec_l8Count.ok k, spec_l8Look.ok k, trivial⟩

noncomputable def spec_l3CmpInt.f (k : Nat) (a0 : Int) (a1 : Int) : Option Int :=
  if (decide (a0 < a1)) = true then (some (-1)) else (if (decide (a0 > a1)) = true then (some 1) else (some 0))
noncomputable def spec_l3CmpInt.e (k : Nat) : FE := { α := Int × Int × Unit, β := Int, args := (lCons (aI .i64) (lCons (aI .i64) lNil)), ret := (rOne (aI .i64)), f := fun p => spec_l3CmpInt.f k p.1 p.2.1 }
noncomputable def spec_l3CmpInt.c (k : Nat) : List (Nat × CE) := []
noncomputable def spec_l3CmpInt.bd : Code := match Try.f211.body with | some c => c | none => .skip
noncomputable def spec_l3CmpInt.g (k : Nat) : List (Nat × LE) := []
theorem spec_l3CmpInt.link (k : Nat) (a0 : Int) (a1 : Int) : evFun (mkCx Try.prog (spec_l3CmpInt.c k) (spec_l3CmpInt.g k) : Cx Int) Try.f211 ((spec_l3CmpInt.e k).args.enc (a0, a1, ())) (spec_l3CmpInt.e k).ret.dec = spec_l3CmpInt.f k a0 a1 := by kernel_rfl
theorem spec_l3CmpInt.ok1 (k : Nat) (hC : AllFun Try.prog (spec_l3CmpInt.c k)) : Fun Try.prog 211 (spec_l3CmpInt.e k).G := fun_ok mixed (body := spec_l3CmpInt.bd) Try.func211 (by kernel_rfl) (by kernel_rfl) (by kernel_rfl) hC (loops_all 0 (by kernel_rfl) fun i hi => absurd hi (Nat.not_lt_zero i)) (spec_l3CmpInt.e k) (fun a => Nat.le_of_ble_eq_true (by kernel_rfl)) fun a b h => (spec_l3CmpInt.link k a.1 a.2.1).trans h
theorem spec_l3CmpInt.ok (k : Nat) : Fun Try.prog 211 (spec_l3CmpInt.e k).G := spec_l3CmpInt.ok1 k trivial

noncomputable def spec_CmpPlane.H4 : Hd := ⟨[], [5, 6, 7], [], [], []⟩
@[reducible] def spec_CmpPlane.A4 : Type := ((Unit × Unit × Int × Unit) × ((List Int) × (List Int) × Unit))
noncomputable def spec_CmpPlane.Z4 : SC spec_CmpPlane.A4 := sC spec_CmpPlane.H4 (eCons 5 (tOsl 1000005) (eCons 6 (tOsl 1000006) (eCons 7 (tP (aI .i64)) eNil))) (bCons 1000005 (xRow 3 (.i .i64)) (bCons 1000006 (xRow 3 (.i .i64)) bNil))
@[reducible] def spec_CmpPlane.B4 : Type := ((Int × Unit) × (Unit)) ⊕ ((Unit) × (Unit))
noncomputable def spec_CmpPlane.X4 : XC spec_CmpPlane.B4 := xOr (xRet (sC ⟨[], [4], [], [], []⟩ (eCons 4 (tP (aI .i64)) eNil) bNil)) (xExit 0 (sC ⟨[], [], [], [], []⟩ eNil bNil))
noncomputable def spec_CmpPlane.s4 (k : Nat)  (J : Int → (List Int) → (List Int) → Option spec_CmpPlane.B4) (x7 : Int) (b1000005 : List Int) (b1000006 : List Int) : Option spec_CmpPlane.B4 :=
  if (decide (x7 < 4)) = true then (if 0 ≤ x7 then (if x7 < (b1000005.length : Int) then (if x7.toNat < b1000005.length then (if 0 ≤ x7 then (if x7 < (b1000006.length : Int) then (if x7.toNat < b1000006.length then (if ((b1000005.getD x7.toNat default) != (b1000006.getD x7.toNat default)) = true then (if 0 ≤ x7 then (if x7 < (b1000005.length : Int) then (if x7.toNat < b1000005.length then (if 0 ≤ x7 then (if x7 < (b1000006.length : Int) then (if x7.toNat < b1000006.length then ((spec_l3CmpInt.f k  (b1000005.getD x7.toNat default) (b1000006.getD x7.toNat default)).bind fun t1 => some (.inl ((t1, ()), (())))) else none) else none) else none) else none) else none) else none) else (J (W (x7 + 1)) b1000005 b1000006)) else none) else none) else none) else none) else none) else none) else (some (.inr ((()), (()))))
noncomputable def spec_CmpPlane.l4 (k : Nat)  : Nat → Int → (List Int) → (List Int) → Option spec_CmpPlane.B4
  | 0, _, _, _ => none
  | n + 1, x7, b1000005, b1000006 => spec_CmpPlane.s4 k (spec_CmpPlane.l4 k n) x7 b1000005 b1000006
noncomputable def spec_CmpPlane.f (k : Nat) (a0 : S4) (a1 : S4) : Option Int :=
  (spec_CmpPlane.l4 k k 0 ([a0.a, a0.b, a0.c, a0.d] : List Int) ([a1.a, a1.b, a1.c, a1.d] : List Int)).bind fun | .inl r2 => (some r2.1.1) | .inr x3 => (some 0)
noncomputable def spec_CmpPlane.e (k : Nat) : FE := { α := S4 × S4 × Unit, β := Int, args := (lCons aS4 (lCons aS4 lNil)), ret := (rOne (aI .i64)), f := fun p => spec_CmpPlane.f k p.1 p.2.1 }
noncomputable def spec_CmpPlane.c (k : Nat) : List (Nat × CE) := [(211, .fn (spec_l3CmpInt.e k))]
noncomputable def spec_CmpPlane.bd : Code := match Try.f172.body with | some c => c | none => .skip
noncomputable def spec_CmpPlane.e4 (k : Nat) : LE := { H := spec_CmpPlane.H4, α := spec_CmpPlane.A4, β := spec_CmpPlane.B4, st := spec_CmpPlane.Z4, xt := spec_CmpPlane.X4, f := fun p => spec_CmpPlane.l4 k k p.1.2.2.1 p.2.1 p.2.2.1 }
noncomputable def spec_CmpPlane.g (k : Nat) : List (Nat × LE) := [(4, spec_CmpPlane.e4 k)]
theorem spec_CmpPlane.t4 (k : Nat) (I : S2 → Option spec_CmpPlane.B4) (x7 : Int) (b1000005 : List Int) (b1000006 : List Int) : stepOf (mkCx Try.prog (spec_CmpPlane.c k) (spec_CmpPlane.g k) : Cx spec_CmpPlane.B4) (loopAt spec_CmpPlane.bd 0) spec_CmpPlane.H4 spec_CmpPlane.X4.dec I (spec_CmpPlane.Z4.enc (((), (), x7, ()), (b1000005, b1000006, ()))) = spec_CmpPlane.s4 k (fun x7 b1000005 b1000006 => I (spec_CmpPlane.Z4.enc (((), (), x7, ()), (b1000005, b1000006, ())))) x7 b1000005 b1000006 := by kernel_rfl
theorem spec_CmpPlane.i4 (k : Nat) : ∀ (n : Nat) (x7 : Int) (b1000005 : List Int) (b1000006 : List Int), iter (evCode (mkCx Try.prog (spec_CmpPlane.c k) (spec_CmpPlane.g k) : Cx spec_CmpPlane.B4) (loopAt spec_CmpPlane.bd 0)) spec_CmpPlane.H4 spec_CmpPlane.X4.dec n (spec_CmpPlane.Z4.enc (((), (), x7, ()), (b1000005, b1000006, ()))) = spec_CmpPlane.l4 k n x7 b1000005 b1000006
  | 0, _, _, _ => rfl
  | n + 1, x7, b1000005, b1000006 => ((iter_step _ _ _ _ n _).trans (spec_CmpPlane.t4 k _ x7 b1000005 b1000006)).trans (congrArg (fun J => spec_CmpPlane.s4 k J x7 b1000005 b1000006) (funext fun x7 => funext fun b1000005 => funext fun b1000006 => spec_CmpPlane.i4 k n x7 b1000005 b1000006))
theorem spec_CmpPlane.to4 (k : Nat) (hC : AllFun Try.prog (spec_CmpPlane.c k)) : LoopTo Try.prog 48 (spec_CmpPlane.e4 k) (loopAt spec_CmpPlane.bd 0) := loop_to mixed hC (by kernel_rfl) (loops_all 0 (by kernel_rfl) fun i hi => absurd hi (Nat.not_lt_zero i)) fun a b h => ⟨k, (spec_CmpPlane.i4 k k a.1.2.2.1 a.2.1 a.2.2.1).trans h⟩
theorem spec_CmpPlane.link (k : Nat) (a0 : S4) (a1 : S4) : evFun (mkCx Try.prog (spec_CmpPlane.c k) (spec_CmpPlane.g k) : Cx Int) Try.f172 ((spec_CmpPlane.e k).args.enc (a0, a1, ())) (spec_CmpPlane.e k).ret.dec = spec_CmpPlane.f k a0 a1 := by kernel_rfl
theorem spec_CmpPlane.ok1 (k : Nat) (hC : AllFun Try.prog (spec_CmpPlane.c k)) : Fun Try.prog 172 (spec_CmpPlane.e k).G := fun_ok mixed (body := spec_CmpPlane.bd) Try.func172 (by kernel_rfl) (by kernel_rfl) (by kernel_rfl) hC (loops_all 1 (by kernel_rfl) fun i hi => by obtain rfl : i = 0 := Nat.lt_one_iff.1 hi; exact ⟨spec_CmpPlane.e4 k, by kernel_rfl, spec_CmpPlane.to4 k hC⟩) (spec_CmpPlane.e k) (fun a => Nat.le_of_ble_eq_true (by kernel_rfl)) fun a b h => (spec_CmpPlane.link k a.1 a.2.1).trans h
theorem spec_CmpPlane.ok (k : Nat) : Fun Try.prog 172 (spec_CmpPlane.e k).G := spec_CmpPlane.ok1 k ⟨spec_l3CmpInt.ok k, trivial⟩

end Go.Proofs.Ytlkcpldohlemcaa.G
