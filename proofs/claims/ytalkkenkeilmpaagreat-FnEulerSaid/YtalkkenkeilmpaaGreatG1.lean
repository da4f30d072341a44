/- Go functions told as plain Lean functions; that the code does what these tell. Printed by a program of the session (evp.py). -/
import Derived.Test.YtalkkenkeilmpaaGreatEv16
import Derived.Test.YtalkkenkeilmpaaGreatG0
import Derived.Test.YtalkkenkeilmpaaGreatSh
namespace Go.Proofs.YtalkkenkeilmpaaGreat.G
open Go Go.RowKit Go.Proofs Go.Proofs.YtalkkenkeilmpaaGreat.Ev
set_option linter.unusedVariables false
set_option maxRecDepth 100000

noncomputable def laws_big.f (k : Nat) (a0 : List Int) : Option Bool :=
  some (decide ((a0.length : Int) > 1048576))
noncomputable def laws_big.e (k : Nat) : FE := { α := (List Int) × Unit, β := Bool, args := (lCons (aSl (.i .u8)) lNil), ret := (rOne aB), f := fun p => laws_big.f k p.1 }
noncomputable def laws_big.c (k : Nat) : List (Nat × CE) := []
noncomputable def laws_big.bd : Code := match Tryz.f5.body with | some c => c | none => .skip
noncomputable def laws_big.g (k : Nat) : List (Nat × LE) := []
theorem laws_big.link (k : Nat) (a0 : List Int) : evFun (mkCx Tryz.prog (laws_big.c k) (laws_big.g k) : Cx Bool) Tryz.f5 ((laws_big.e k).args.enc (a0, ())) (laws_big.e k).ret.dec = laws_big.f k a0 := by kernel_rfl
theorem laws_big.ok1 (k : Nat) (hC : AllFun Tryz.prog (laws_big.c k)) : Fun Tryz.prog 5 (laws_big.e k).G := fun_ok mixed (body := laws_big.bd) Tryz.func5 (by kernel_rfl) (by kernel_rfl) (by kernel_rfl) hC (loops_all 0 (by kernel_rfl) fun i hi => absurd hi (Nat.not_lt_zero i)) (laws_big.e k) (fun a => Nat.le_of_ble_eq_true (by kernel_rfl)) fun a b h => (laws_big.link k a.1).trans h
theorem laws_big.ok (k : Nat) : Fun Tryz.prog 5 (laws_big.e k).G := laws_big.ok1 k trivial

noncomputable def spec_l1New.H3 : Hd := ⟨[], [0, 3, 4], [], [], []⟩
@[reducible] def spec_l1New.A3 : Type := (((List Int) × Int × Int × Unit) × (Unit))
noncomputable def spec_l1New.Z3 : SC spec_l1New.A3 := sC spec_l1New.H3 (eCons 0 (tP (aSl (.i .u8))) (eCons 3 (tP (aI .i64)) (eCons 4 (tP (aI .i64)) eNil))) bNil
@[reducible] def spec_l1New.B3 : Type := (((List Int) × Int × Unit) × (Unit))
noncomputable def spec_l1New.X3 : XC spec_l1New.B3 := xExit 0 (sC ⟨[], [0, 3], [], [], []⟩ (eCons 0 (tP (aSl (.i .u8))) (eCons 3 (tP (aI .i64)) eNil)) bNil)
noncomputable def spec_l1New.s3 (k : Nat)  (J : (List Int) → Int → Int → Option spec_l1New.B3) (x0 : List Int) (x3 : Int) (x4 : Int) : Option spec_l1New.B3 :=
  if (decide (x4 < (x0.length : Int))) = true then (if (decide (x4 < 4000)) = true then (if 0 ≤ x4 then (if x4 < (x0.length : Int) then (J x0 (andW (W ((W ((W (x3 * 137)) + (W (rd x0 x4)))) + 11)) 1073741823) (W (x4 + 1))) else none) else none) else (some ((x0, x3, ()), (())))) else (some ((x0, x3, ()), (())))
noncomputable def spec_l1New.l3 (k : Nat)  : Nat → (List Int) → Int → Int → Option spec_l1New.B3
  | 0, _, _, _ => none
  | n + 1, x0, x3, x4 => spec_l1New.s3 k (spec_l1New.l3 k n) x0 x3 x4
noncomputable def spec_l1New.f (k : Nat) (a0 : List Int) : Option ((List Int) × Int × Int × Unit) :=
  (spec_l1New.l3 k k a0 (W (142142 + (a0.length : Int))) 0).bind fun x1 => some (x1.1.1, 0, x1.1.2.1, ())
noncomputable def spec_l1New.e (k : Nat) : FE := { α := (List Int) × Unit, β := ((List Int) × Int × Int × Unit), args := (lCons (aSl (.i .u8)) lNil), ret := (rVar (lCons (aSl (.i .u8)) (lCons (aI .i64) (lCons (aI .i64) lNil)))), f := fun p => spec_l1New.f k p.1 }
noncomputable def spec_l1New.c (k : Nat) : List (Nat × CE) := []
noncomputable def spec_l1New.bd : Code := match Tryz.f16.body with | some c => c | none => .skip
noncomputable def spec_l1New.e3 (k : Nat) : LE := { H := spec_l1New.H3, α := spec_l1New.A3, β := spec_l1New.B3, st := spec_l1New.Z3, xt := spec_l1New.X3, f := fun p => spec_l1New.l3 k k p.1.1 p.1.2.1 p.1.2.2.1 }
noncomputable def spec_l1New.g (k : Nat) : List (Nat × LE) := [(3, spec_l1New.e3 k)]
theorem spec_l1New.t3 (k : Nat) (I : S2 → Option spec_l1New.B3) (x0 : List Int) (x3 : Int) (x4 : Int) : stepOf (mkCx Tryz.prog (spec_l1New.c k) (spec_l1New.g k) : Cx spec_l1New.B3) (loopAt spec_l1New.bd 0) spec_l1New.H3 spec_l1New.X3.dec I (spec_l1New.Z3.enc ((x0, x3, x4, ()), (()))) = spec_l1New.s3 k (fun x0 x3 x4 => I (spec_l1New.Z3.enc ((x0, x3, x4, ()), (())))) x0 x3 x4 := by kernel_rfl
theorem spec_l1New.i3 (k : Nat) : ∀ (n : Nat) (x0 : List Int) (x3 : Int) (x4 : Int), iter (evCode (mkCx Tryz.prog (spec_l1New.c k) (spec_l1New.g k) : Cx spec_l1New.B3) (loopAt spec_l1New.bd 0)) spec_l1New.H3 spec_l1New.X3.dec n (spec_l1New.Z3.enc ((x0, x3, x4, ()), (()))) = spec_l1New.l3 k n x0 x3 x4
  | 0, _, _, _ => rfl
  | n + 1, x0, x3, x4 => ((iter_step _ _ _ _ n _).trans (spec_l1New.t3 k _ x0 x3 x4)).trans (congrArg (fun J => spec_l1New.s3 k J x0 x3 x4) (funext fun x0 => funext fun x3 => funext fun x4 => spec_l1New.i3 k n x0 x3 x4))
theorem spec_l1New.to3 (k : Nat) (hC : AllFun Tryz.prog (spec_l1New.c k)) : LoopTo Tryz.prog 32 (spec_l1New.e3 k) (loopAt spec_l1New.bd 0) := loop_to mixed hC (by kernel_rfl) (loops_all 0 (by kernel_rfl) fun i hi => absurd hi (Nat.not_lt_zero i)) fun a b h => ⟨k, (spec_l1New.i3 k k a.1.1 a.1.2.1 a.1.2.2.1).trans h⟩
theorem spec_l1New.link (k : Nat) (a0 : List Int) : evFun (mkCx Tryz.prog (spec_l1New.c k) (spec_l1New.g k) : Cx ((List Int) × Int × Int × Unit)) Tryz.f16 ((spec_l1New.e k).args.enc (a0, ())) (spec_l1New.e k).ret.dec = spec_l1New.f k a0 := by kernel_rfl
theorem spec_l1New.ok1 (k : Nat) (hC : AllFun Tryz.prog (spec_l1New.c k)) : Fun Tryz.prog 16 (spec_l1New.e k).G := fun_ok mixed (body := spec_l1New.bd) Tryz.func16 (by kernel_rfl) (by kernel_rfl) (by kernel_rfl) hC (loops_all 1 (by kernel_rfl) fun i hi => by obtain rfl : i = 0 := Nat.lt_one_iff.1 hi; exact ⟨spec_l1New.e3 k, by kernel_rfl, spec_l1New.to3 k hC⟩) (spec_l1New.e k) (fun a => Nat.le_of_ble_eq_true (by kernel_rfl)) fun a b h => (spec_l1New.link k a.1).trans h
theorem spec_l1New.ok (k : Nat) : Fun Tryz.prog 16 (spec_l1New.e k).G := spec_l1New.ok1 k trivial

noncomputable def spec_l1Byte.f (k : Nat) (a0 : ((List Int) × Int × Int × Unit)) : Option (Int × ((List Int) × Int × Int × Unit)) :=
  if (decide (a0.2.1 < (a0.1.length : Int))) = true then (if 0 ≤ a0.2.1 then (if a0.2.1 < (a0.1.length : Int) then (some ((andW (W ((andW (xorW (shrW (W ((W (a0.2.2.1 * 6364136223846793005)) + 1442695040888963407)) 33) (shrW (W ((W (a0.2.2.1 * 6364136223846793005)) + 1442695040888963407)) 47)) 255) + (W (rd a0.1 a0.2.1)))) 255), (a0.1, (W (a0.2.1 + 1)), (W ((W (a0.2.2.1 * 6364136223846793005)) + 1442695040888963407)), ()))) else none) else none) else (some ((andW (xorW (shrW (W ((W (a0.2.2.1 * 6364136223846793005)) + 1442695040888963407)) 33) (shrW (W ((W (a0.2.2.1 * 6364136223846793005)) + 1442695040888963407)) 47)) 255), (a0.1, a0.2.1, (W ((W (a0.2.2.1 * 6364136223846793005)) + 1442695040888963407)), ())))
noncomputable def spec_l1Byte.e (k : Nat) : FS := { σ := ((List Int) × Int × Int × Unit), α := Unit, β := Int, sk := .var, st := (xVr (lCons (aSl (.i .u8)) (lCons (aI .i64) (lCons (aI .i64) lNil)))), args := lNil, ret := (rOne (aI .i64)), f := fun s p => spec_l1Byte.f k s  }
noncomputable def spec_l1Byte.c (k : Nat) : List (Nat × CE) := []
noncomputable def spec_l1Byte.bd : Code := match Tryz.f68.body with | some c => c | none => .skip
noncomputable def spec_l1Byte.g (k : Nat) : List (Nat × LE) := []
theorem spec_l1Byte.link (k : Nat) (a0 : ((List Int) × Int × Int × Unit)) : evFunS (mkCx Tryz.prog (spec_l1Byte.c k) (spec_l1Byte.g k) : Cx (Int × ((List Int) × Int × Int × Unit))) Tryz.f68 (spec_l1Byte.e k).sk ((spec_l1Byte.e k).st.enc a0) ((spec_l1Byte.e k).args.enc (())) (spec_l1Byte.e k).fin = spec_l1Byte.f k a0 := by kernel_rfl
theorem spec_l1Byte.ok1 (k : Nat) (hC : AllFun Tryz.prog (spec_l1Byte.c k)) : FunS Tryz.prog 68 (spec_l1Byte.e k).sk (spec_l1Byte.e k).H := fun_okS mixed (body := spec_l1Byte.bd) Tryz.func68 (by kernel_rfl) (by kernel_rfl) (by kernel_rfl) hC (loops_all 0 (by kernel_rfl) fun i hi => absurd hi (Nat.not_lt_zero i)) (spec_l1Byte.e k) (fun a => Nat.le_of_ble_eq_true (by kernel_rfl)) (Nat.le_of_ble_eq_true (by kernel_rfl)) fun s a b h => (spec_l1Byte.link k s).trans h
theorem spec_l1Byte.ok (k : Nat) : FunS Tryz.prog 68 (spec_l1Byte.e k).sk (spec_l1Byte.e k).H := spec_l1Byte.ok1 k trivial

noncomputable def spec_l1Below.f (k : Nat) (a0 : ((List Int) × Int × Int × Unit)) (a1 : Int) : Option (Int × ((List Int) × Int × Int × Unit)) :=
  if (decide (a1 ≤ 0)) = true then (some (0, (a0.1, a0.2.1, a0.2.2.1, ()))) else (if (decide (a1 ≤ 256)) = true then ((spec_l1Byte.f k  (a0.1, a0.2.1, a0.2.2.1, ())).bind fun t1 => if a1 = 0 then none else (some ((t1.1.tmod a1), (t1.2.1, t1.2.2.1, t1.2.2.2.1, ())))) else ((spec_l1Byte.f k  (a0.1, a0.2.1, a0.2.2.1, ())).bind fun t2 => (spec_l1Byte.f k  (t2.2.1, t2.2.2.1, t2.2.2.2.1, ())).bind fun t3 => (spec_l1Byte.f k  (t3.2.1, t3.2.2.1, t3.2.2.2.1, ())).bind fun t4 => if a1 = 0 then none else (some (((W ((W ((W (t2.1 * 65536)) + (W (t3.1 * 256)))) + t4.1)).tmod a1), (t4.2.1, t4.2.2.1, t4.2.2.2.1, ())))))
noncomputable def spec_l1Below.e (k : Nat) : FS := { σ := ((List Int) × Int × Int × Unit), α := Int × Unit, β := Int, sk := .var, st := (xVr (lCons (aSl (.i .u8)) (lCons (aI .i64) (lCons (aI .i64) lNil)))), args := (lCons (aI .i64) lNil), ret := (rOne (aI .i64)), f := fun s p => spec_l1Below.f k s p.1 }
noncomputable def spec_l1Below.c (k : Nat) : List (Nat × CE) := [(68, .st (spec_l1Byte.e k))]
noncomputable def spec_l1Below.bd : Code := match Tryz.f35.body with | some c => c | none => .skip
noncomputable def spec_l1Below.g (k : Nat) : List (Nat × LE) := []
theorem spec_l1Below.link (k : Nat) (a0 : ((List Int) × Int × Int × Unit)) (a1 : Int) : evFunS (mkCx Tryz.prog (spec_l1Below.c k) (spec_l1Below.g k) : Cx (Int × ((List Int) × Int × Int × Unit))) Tryz.f35 (spec_l1Below.e k).sk ((spec_l1Below.e k).st.enc a0) ((spec_l1Below.e k).args.enc (a1, ())) (spec_l1Below.e k).fin = spec_l1Below.f k a0 a1 := by kernel_rfl
theorem spec_l1Below.ok1 (k : Nat) (hC : AllFun Tryz.prog (spec_l1Below.c k)) : FunS Tryz.prog 35 (spec_l1Below.e k).sk (spec_l1Below.e k).H := fun_okS mixed (body := spec_l1Below.bd) Tryz.func35 (by kernel_rfl) (by kernel_rfl) (by kernel_rfl) hC (loops_all 0 (by kernel_rfl) fun i hi => absurd hi (Nat.not_lt_zero i)) (spec_l1Below.e k) (fun a => Nat.le_of_ble_eq_true (by kernel_rfl)) (Nat.le_of_ble_eq_true (by kernel_rfl)) fun s a b h => (spec_l1Below.link k s a.1).trans h
theorem spec_l1Below.ok (k : Nat) : FunS Tryz.prog 35 (spec_l1Below.e k).sk (spec_l1Below.e k).H := spec_l1Below.ok1 k ⟨spec_l1Byte.ok k, trivial⟩

noncomputable def spec_l1Once.f (k : Nat) (a0 : ((List Int) × Int × Int × Unit)) (a1 : Int) : Option (Bool × ((List Int) × Int × Int × Unit)) :=
  (spec_l1Below.f k  (a0.1, a0.2.1, a0.2.2.1, ()) a1).bind fun t1 => some ((t1.1 == 0), (t1.2.1, t1.2.2.1, t1.2.2.2.1, ()))
noncomputable def spec_l1Once.e (k : Nat) : FS := { σ := ((List Int) × Int × Int × Unit), α := Int × Unit, β := Bool, sk := .var, st := (xVr (lCons (aSl (.i .u8)) (lCons (aI .i64) (lCons (aI .i64) lNil)))), args := (lCons (aI .i64) lNil), ret := (rOne aB), f := fun s p => spec_l1Once.f k s p.1 }
noncomputable def spec_l1Once.c (k : Nat) : List (Nat × CE) := [(35, .st (spec_l1Below.e k))]
noncomputable def spec_l1Once.bd : Code := match Tryz.f34.body with | some c => c | none => .skip
noncomputable def spec_l1Once.g (k : Nat) : List (Nat × LE) := []
theorem spec_l1Once.link (k : Nat) (a0 : ((List Int) × Int × Int × Unit)) (a1 : Int) : evFunS (mkCx Tryz.prog (spec_l1Once.c k) (spec_l1Once.g k) : Cx (Bool × ((List Int) × Int × Int × Unit))) Tryz.f34 (spec_l1Once.e k).sk ((spec_l1Once.e k).st.enc a0) ((spec_l1Once.e k).args.enc (a1, ())) (spec_l1Once.e k).fin = spec_l1Once.f k a0 a1 := by kernel_rfl
theorem spec_l1Once.ok1 (k : Nat) (hC : AllFun Tryz.prog (spec_l1Once.c k)) : FunS Tryz.prog 34 (spec_l1Once.e k).sk (spec_l1Once.e k).H := fun_okS mixed (body := spec_l1Once.bd) Tryz.func34 (by kernel_rfl) (by kernel_rfl) (by kernel_rfl) hC (loops_all 0 (by kernel_rfl) fun i hi => absurd hi (Nat.not_lt_zero i)) (spec_l1Once.e k) (fun a => Nat.le_of_ble_eq_true (by kernel_rfl)) (Nat.le_of_ble_eq_true (by kernel_rfl)) fun s a b h => (spec_l1Once.link k s a.1).trans h
theorem spec_l1Once.ok (k : Nat) : FunS Tryz.prog 34 (spec_l1Once.e k).sk (spec_l1Once.e k).H := spec_l1Once.ok1 k ⟨spec_l1Below.ok k, trivial⟩

noncomputable def spec_l1Int.f (k : Nat) (a0 : ((List Int) × Int × Int × Unit)) (a1 : List Int) : Option (Int × ((List Int) × Int × Int × Unit)) :=
  (spec_l1Below.f k  (a0.1, a0.2.1, a0.2.2.1, ()) (a1.length : Int)).bind fun t1 => if 0 ≤ t1.1 then (if t1.1 < (a1.length : Int) then (some ((rd a1 t1.1), (t1.2.1, t1.2.2.1, t1.2.2.2.1, ()))) else none) else none
noncomputable def spec_l1Int.e (k : Nat) : FS := { σ := ((List Int) × Int × Int × Unit), α := (List Int) × Unit, β := Int, sk := .var, st := (xVr (lCons (aSl (.i .u8)) (lCons (aI .i64) (lCons (aI .i64) lNil)))), args := (lCons (aSl (.i .i64)) lNil), ret := (rOne (aI .i64)), f := fun s p => spec_l1Int.f k s p.1 }
noncomputable def spec_l1Int.c (k : Nat) : List (Nat × CE) := [(35, .st (spec_l1Below.e k))]
noncomputable def spec_l1Int.bd : Code := match Tryz.f70.body with | some c => c | none => .skip
noncomputable def spec_l1Int.g (k : Nat) : List (Nat × LE) := []
theorem spec_l1Int.link (k : Nat) (a0 : ((List Int) × Int × Int × Unit)) (a1 : List Int) : evFunS (mkCx Tryz.prog (spec_l1Int.c k) (spec_l1Int.g k) : Cx (Int × ((List Int) × Int × Int × Unit))) Tryz.f70 (spec_l1Int.e k).sk ((spec_l1Int.e k).st.enc a0) ((spec_l1Int.e k).args.enc (a1, ())) (spec_l1Int.e k).fin = spec_l1Int.f k a0 a1 := by kernel_rfl
theorem spec_l1Int.ok1 (k : Nat) (hC : AllFun Tryz.prog (spec_l1Int.c k)) : FunS Tryz.prog 70 (spec_l1Int.e k).sk (spec_l1Int.e k).H := fun_okS mixed (body := spec_l1Int.bd) Tryz.func70 (by kernel_rfl) (by kernel_rfl) (by kernel_rfl) hC (loops_all 0 (by kernel_rfl) fun i hi => absurd hi (Nat.not_lt_zero i)) (spec_l1Int.e k) (fun a => Nat.le_of_ble_eq_true (by kernel_rfl)) (Nat.le_of_ble_eq_true (by kernel_rfl)) fun s a b h => (spec_l1Int.link k s a.1).trans h
theorem spec_l1Int.ok (k : Nat) : FunS Tryz.prog 70 (spec_l1Int.e k).sk (spec_l1Int.e k).H := spec_l1Int.ok1 k ⟨spec_l1Below.ok k, trivial⟩

noncomputable def spec_l3Coef.f (k : Nat) (a0 : ((List Int) × Int × Int × Unit)) : Option (Int × ((List Int) × Int × Int × Unit)) :=
  (spec_l1Below.f k  (a0.1, a0.2.1, a0.2.2.1, ()) 11).bind fun t1 => (spec_l1Int.f k  (t1.2.1, t1.2.2.1, t1.2.2.2.1, ()) ([0, 0, 1, (-1), 2, (-3), (W (t1.1 - 5))] : List Int)).bind fun t2 => some (t2.1, (t2.2.1, t2.2.2.1, t2.2.2.2.1, ()))
noncomputable def spec_l3Coef.e (k : Nat) : FS := { σ := ((List Int) × Int × Int × Unit), α := Unit, β := Int, sk := .var, st := (xVr (lCons (aSl (.i .u8)) (lCons (aI .i64) (lCons (aI .i64) lNil)))), args := lNil, ret := (rOne (aI .i64)), f := fun s p => spec_l3Coef.f k s  }
noncomputable def spec_l3Coef.c (k : Nat) : List (Nat × CE) := [(35, .st (spec_l1Below.e k)), (70, .st (spec_l1Int.e k))]
noncomputable def spec_l3Coef.bd : Code := match Tryz.f69.body with | some c => c | none => .skip
noncomputable def spec_l3Coef.g (k : Nat) : List (Nat × LE) := []
theorem spec_l3Coef.link (k : Nat) (a0 : ((List Int) × Int × Int × Unit)) : evFunS (mkCx Tryz.prog (spec_l3Coef.c k) (spec_l3Coef.g k) : Cx (Int × ((List Int) × Int × Int × Unit))) Tryz.f69 (spec_l3Coef.e k).sk ((spec_l3Coef.e k).st.enc a0) ((spec_l3Coef.e k).args.enc (())) (spec_l3Coef.e k).fin = spec_l3Coef.f k a0 := by kernel_rfl
theorem spec_l3Coef.ok1 (k : Nat) (hC : AllFun Tryz.prog (spec_l3Coef.c k)) : FunS Tryz.prog 69 (spec_l3Coef.e k).sk (spec_l3Coef.e k).H := fun_okS mixed (body := spec_l3Coef.bd) Tryz.func69 (by kernel_rfl) (by kernel_rfl) (by kernel_rfl) hC (loops_all 0 (by kernel_rfl) fun i hi => absurd hi (Nat.not_lt_zero i)) (spec_l3Coef.e k) (fun a => Nat.le_of_ble_eq_true (by kernel_rfl)) (Nat.le_of_ble_eq_true (by kernel_rfl)) fun s a b h => (spec_l3Coef.link k s).trans h
theorem spec_l3Coef.ok (k : Nat) : FunS Tryz.prog 69 (spec_l3Coef.e k).sk (spec_l3Coef.e k).H := spec_l3Coef.ok1 k ⟨spec_l1Below.ok k, spec_l1Int.ok k, trivial⟩

noncomputable def spec_l1Num.H2 : Hd := ⟨[], [0, 1, 4, 5], [4], [], []⟩
@[reducible] def spec_l1Num.A2 : Type := ((Bool × (List Int) × Unit × Int × Unit) × (Nm × Unit))
noncomputable def spec_l1Num.Z2 : SC spec_l1Num.A2 := sC spec_l1Num.H2 (eCons 0 (tP aB) (eCons 1 (tP (aSl (.i .i64))) (eCons 4 (tRef 4 0) (eCons 5 (tP (aI .i64)) eNil)))) (bCons 4 (xVr cNum) bNil)
@[reducible] def spec_l1Num.B2 : Type := ((Bool × (List Int) × Unit × Int × Unit) × (Nm × Unit))
noncomputable def spec_l1Num.X2 : XC spec_l1Num.B2 := xExit 0 (sC ⟨[], [0, 1, 4, 5], [4], [], []⟩ (eCons 0 (tP aB) (eCons 1 (tP (aSl (.i .i64))) (eCons 4 (tRef 4 0) (eCons 5 (tP (aI .i64)) eNil)))) (bCons 4 (xVr cNum) bNil))
noncomputable def spec_l1Num.s2 (k : Nat)  (J : Bool → (List Int) → Int → Nm → Option spec_l1Num.B2) (x0 : Bool) (x1 : List Int) (x5 : Int) (b4 : Nm) : Option spec_l1Num.B2 :=
  if (decide (x5 > 0)) = true then (if 0 ≤ (W (x5 - 1)) then (if (W (x5 - 1)) < (x1.length : Int) then (if ((rd x1 (W (x5 - 1))) == 0) = true then (J x0 x1 (W (x5 - 1)) b4) else (some ((x0, x1, (), x5, ()), (b4, ())))) else none) else none) else (some ((x0, x1, (), x5, ()), (b4, ())))
noncomputable def spec_l1Num.l2 (k : Nat)  : Nat → Bool → (List Int) → Int → Nm → Option spec_l1Num.B2
  | 0, _, _, _, _ => none
  | n + 1, x0, x1, x5, b4 => spec_l1Num.s2 k (spec_l1Num.l2 k n) x0 x1 x5 b4
noncomputable def spec_l1Num.f (k : Nat) (a0 : Bool) (a1 : List Int) : Option Nm :=
  (spec_l1Num.l2 k k a0 a1 (a1.length : Int) (⟨false, ([] : List Int)⟩ : Nm)).bind fun x1 => if x1.1.1 = true then (if 0 ≤ x1.1.2.2.2.1 then (if x1.1.2.2.2.1 ≤ (x1.1.2.1.length : Int) then (if lt47 (([] : List Int).length + (x1.1.2.1.take x1.1.2.2.2.1.toNat).length) = true then (some (⟨(decide (x1.1.2.2.2.1 > 0)), (([] : List Int) ++ (x1.1.2.1.take x1.1.2.2.2.1.toNat))⟩ : Nm)) else none) else none) else none) else (if 0 ≤ x1.1.2.2.2.1 then (if x1.1.2.2.2.1 ≤ (x1.1.2.1.length : Int) then (if lt47 (([] : List Int).length + (x1.1.2.1.take x1.1.2.2.2.1.toNat).length) = true then (some (⟨false, (([] : List Int) ++ (x1.1.2.1.take x1.1.2.2.2.1.toNat))⟩ : Nm)) else none) else none) else none)
noncomputable def spec_l1Num.e (k : Nat) : FE := { α := Bool × (List Int) × Unit, β := Nm, args := (lCons aB (lCons (aSl (.i .i64)) lNil)), ret := (rOne aNum), f := fun p => spec_l1Num.f k p.1 p.2.1 }
noncomputable def spec_l1Num.c (k : Nat) : List (Nat × CE) := []
noncomputable def spec_l1Num.bd : Code := match Tryz.f26.body with | some c => c | none => .skip
noncomputable def spec_l1Num.e2 (k : Nat) : LE := { H := spec_l1Num.H2, α := spec_l1Num.A2, β := spec_l1Num.B2, st := spec_l1Num.Z2, xt := spec_l1Num.X2, f := fun p => spec_l1Num.l2 k k p.1.1 p.1.2.1 p.1.2.2.2.1 p.2.1 }
noncomputable def spec_l1Num.g (k : Nat) : List (Nat × LE) := [(2, spec_l1Num.e2 k)]
theorem spec_l1Num.t2 (k : Nat) (I : S2 → Option spec_l1Num.B2) (x0 : Bool) (x1 : List Int) (x5 : Int) (b4 : Nm) : stepOf (mkCx Tryz.prog (spec_l1Num.c k) (spec_l1Num.g k) : Cx spec_l1Num.B2) (loopAt spec_l1Num.bd 0) spec_l1Num.H2 spec_l1Num.X2.dec I (spec_l1Num.Z2.enc ((x0, x1, (), x5, ()), (b4, ()))) = spec_l1Num.s2 k (fun x0 x1 x5 b4 => I (spec_l1Num.Z2.enc ((x0, x1, (), x5, ()), (b4, ())))) x0 x1 x5 b4 := by kernel_rfl
theorem spec_l1Num.i2 (k : Nat) : ∀ (n : Nat) (x0 : Bool) (x1 : List Int) (x5 : Int) (b4 : Nm), iter (evCode (mkCx Tryz.prog (spec_l1Num.c k) (spec_l1Num.g k) : Cx spec_l1Num.B2) (loopAt spec_l1Num.bd 0)) spec_l1Num.H2 spec_l1Num.X2.dec n (spec_l1Num.Z2.enc ((x0, x1, (), x5, ()), (b4, ()))) = spec_l1Num.l2 k n x0 x1 x5 b4
  | 0, _, _, _, _ => rfl
  | n + 1, x0, x1, x5, b4 => ((iter_step _ _ _ _ n _).trans (spec_l1Num.t2 k _ x0 x1 x5 b4)).trans (congrArg (fun J => spec_l1Num.s2 k J x0 x1 x5 b4) (funext fun x0 => funext fun x1 => funext fun x5 => funext fun b4 => spec_l1Num.i2 k n x0 x1 x5 b4))
theorem spec_l1Num.to2 (k : Nat) (hC : AllFun Tryz.prog (spec_l1Num.c k)) : LoopTo Tryz.prog 31 (spec_l1Num.e2 k) (loopAt spec_l1Num.bd 0) := loop_to mixed hC (by kernel_rfl) (loops_all 0 (by kernel_rfl) fun i hi => absurd hi (Nat.not_lt_zero i)) fun a b h => ⟨k, (spec_l1Num.i2 k k a.1.1 a.1.2.1 a.1.2.2.2.1 a.2.1).trans h⟩
theorem spec_l1Num.link (k : Nat) (a0 : Bool) (a1 : List Int) : evFun (mkCx Tryz.prog (spec_l1Num.c k) (spec_l1Num.g k) : Cx Nm) Tryz.f26 ((spec_l1Num.e k).args.enc (a0, a1, ())) (spec_l1Num.e k).ret.dec = spec_l1Num.f k a0 a1 := by kernel_rfl
theorem spec_l1Num.ok1 (k : Nat) (hC : AllFun Tryz.prog (spec_l1Num.c k)) : Fun Tryz.prog 26 (spec_l1Num.e k).G := fun_ok mixed (body := spec_l1Num.bd) Tryz.func26 (by kernel_rfl) (by kernel_rfl) (by kernel_rfl) hC (loops_all 1 (by kernel_rfl) fun i hi => by obtain rfl : i = 0 := Nat.lt_one_iff.1 hi; exact ⟨spec_l1Num.e2 k, by kernel_rfl, spec_l1Num.to2 k hC⟩) (spec_l1Num.e k) (fun a => Nat.le_of_ble_eq_true (by kernel_rfl)) fun a b h => (spec_l1Num.link k a.1 a.2.1).trans h
theorem spec_l1Num.ok (k : Nat) : Fun Tryz.prog 26 (spec_l1Num.e k).G := spec_l1Num.ok1 k trivial

noncomputable def spec_Of.H5 : Hd := ⟨[], [0, 2, 3, 4], [2], [], []⟩
@[reducible] def spec_Of.A5 : Type := ((Int × Unit × Int × Unit × Unit) × (Nm × (List Int) × Unit))
noncomputable def spec_Of.Z5 : SC spec_Of.A5 := sC spec_Of.H5 (eCons 0 (tP (aI .i64)) (eCons 2 (tRef 2 0) (eCons 3 (tP (aI .u64)) (eCons 4 (tOsl 1000004) eNil)))) (bCons 2 (xVr cNum) (bCons 1000004 (xRow 3 (.i .i64)) bNil))
@[reducible] def spec_Of.B5 : Type := ((Int × Unit × Unit × Unit) × (Nm × (List Int) × Unit))
noncomputable def spec_Of.X5 : XC spec_Of.B5 := xExit 0 (sC ⟨[], [0, 2, 4], [2], [], []⟩ (eCons 0 (tP (aI .i64)) (eCons 2 (tRef 2 0) (eCons 4 (tOsl 1000004) eNil))) (bCons 2 (xVr cNum) (bCons 1000004 (xRow 3 (.i .i64)) bNil)))
noncomputable def spec_Of.s5 (k : Nat)  (J : Int → Int → Nm → (List Int) → Option spec_Of.B5) (x0 : Int) (x3 : Int) (b2 : Nm) (b1000004 : List Int) : Option spec_Of.B5 :=
  if (decide (x3 > 0)) = true then (if 10000 = 0 then none else (if lt47 (b1000004.length + ([(W (x3.tmod 10000))] : List Int).length) = true then (if 10000 = 0 then none else (J x0 (U (x3.tdiv 10000)) b2 (b1000004 ++ ([(W (x3.tmod 10000))] : List Int)))) else none)) else (some ((x0, (), (), ()), (b2, b1000004, ())))
noncomputable def spec_Of.l5 (k : Nat)  : Nat → Int → Int → Nm → (List Int) → Option spec_Of.B5
  | 0, _, _, _, _ => none
  | n + 1, x0, x3, b2, b1000004 => spec_Of.s5 k (spec_Of.l5 k n) x0 x3 b2 b1000004
noncomputable def spec_Of.f (k : Nat) (a0 : Int) : Option Nm :=
  if (decide (a0 < 0)) = true then ((spec_Of.l5 k k a0 (U ((U (W (0 - (W (a0 + 1))))) + 1)) (⟨false, ([] : List Int)⟩ : Nm) ([] : List Int)).bind fun x1 => (spec_l1Num.f k  (decide (x1.1.1 < 0)) x1.2.2.1).bind fun t2 => some t2) else ((spec_Of.l5 k k a0 (U a0) (⟨false, ([] : List Int)⟩ : Nm) ([] : List Int)).bind fun x3 => (spec_l1Num.f k  (decide (x3.1.1 < 0)) x3.2.2.1).bind fun t4 => some t4)
noncomputable def spec_Of.e (k : Nat) : FE := { α := Int × Unit, β := Nm, args := (lCons (aI .i64) lNil), ret := (rOne aNum), f := fun p => spec_Of.f k p.1 }
noncomputable def spec_Of.c (k : Nat) : List (Nat × CE) := [(26, .fn (spec_l1Num.e k))]
noncomputable def spec_Of.bd : Code := match Tryz.f22.body with | some c => c | none => .skip
noncomputable def spec_Of.e5 (k : Nat) : LE := { H := spec_Of.H5, α := spec_Of.A5, β := spec_Of.B5, st := spec_Of.Z5, xt := spec_Of.X5, f := fun p => spec_Of.l5 k k p.1.1 p.1.2.2.1 p.2.1 p.2.2.1 }
noncomputable def spec_Of.g (k : Nat) : List (Nat × LE) := [(5, spec_Of.e5 k)]
theorem spec_Of.t5 (k : Nat) (I : S2 → Option spec_Of.B5) (x0 : Int) (x3 : Int) (b2 : Nm) (b1000004 : List Int) : stepOf (mkCx Tryz.prog (spec_Of.c k) (spec_Of.g k) : Cx spec_Of.B5) (loopAt spec_Of.bd 0) spec_Of.H5 spec_Of.X5.dec I (spec_Of.Z5.enc ((x0, (), x3, (), ()), (b2, b1000004, ()))) = spec_Of.s5 k (fun x0 x3 b2 b1000004 => I (spec_Of.Z5.enc ((x0, (), x3, (), ()), (b2, b1000004, ())))) x0 x3 b2 b1000004 := by kernel_rfl
theorem spec_Of.i5 (k : Nat) : ∀ (n : Nat) (x0 : Int) (x3 : Int) (b2 : Nm) (b1000004 : List Int), iter (evCode (mkCx Tryz.prog (spec_Of.c k) (spec_Of.g k) : Cx spec_Of.B5) (loopAt spec_Of.bd 0)) spec_Of.H5 spec_Of.X5.dec n (spec_Of.Z5.enc ((x0, (), x3, (), ()), (b2, b1000004, ()))) = spec_Of.l5 k n x0 x3 b2 b1000004
  | 0, _, _, _, _ => rfl
  | n + 1, x0, x3, b2, b1000004 => ((iter_step _ _ _ _ n _).trans (spec_Of.t5 k _ x0 x3 b2 b1000004)).trans (congrArg (fun J => spec_Of.s5 k J x0 x3 b2 b1000004) (funext fun x0 => funext fun x3 => funext fun b2 => funext fun b1000004 => spec_Of.i5 k n x0 x3 b2 b1000004))
theorem spec_Of.to5 (k : Nat) (hC : AllFun Tryz.prog (spec_Of.c k)) : LoopTo Tryz.prog 29 (spec_Of.e5 k) (loopAt spec_Of.bd 0) := loop_to mixed hC (by kernel_rfl) (loops_all 0 (by kernel_rfl) fun i hi => absurd hi (Nat.not_lt_zero i)) fun a b h => ⟨k, (spec_Of.i5 k k a.1.1 a.1.2.2.1 a.2.1 a.2.2.1).trans h⟩
theorem spec_Of.link (k : Nat) (a0 : Int) : evFun (mkCx Tryz.prog (spec_Of.c k) (spec_Of.g k) : Cx Nm) Tryz.f22 ((spec_Of.e k).args.enc (a0, ())) (spec_Of.e k).ret.dec = spec_Of.f k a0 := by kernel_rfl
theorem spec_Of.ok1 (k : Nat) (hC : AllFun Tryz.prog (spec_Of.c k)) : Fun Tryz.prog 22 (spec_Of.e k).G := fun_ok mixed (body := spec_Of.bd) Tryz.func22 (by kernel_rfl) (by kernel_rfl) (by kernel_rfl) hC (loops_all 1 (by kernel_rfl) fun i hi => by obtain rfl : i = 0 := Nat.lt_one_iff.1 hi; exact ⟨spec_Of.e5 k, by kernel_rfl, spec_Of.to5 k hC⟩) (spec_Of.e k) (fun a => Nat.le_of_ble_eq_true (by kernel_rfl)) fun a b h => (spec_Of.link k a.1).trans h
theorem spec_Of.ok (k : Nat) : Fun Tryz.prog 22 (spec_Of.e k).G := spec_Of.ok1 k ⟨spec_l1Num.ok k, trivial⟩

noncomputable def spec_l1In.f (k : Nat) (a0 : Int) (a1 : Int) (a2 : Int) : Option Bool :=
  if (decide (a0 ≥ a1)) = true then (some (decide (a0 ≤ a2))) else (some false)
noncomputable def spec_l1In.e (k : Nat) : FE := { α := Int × Int × Int × Unit, β := Bool, args := (lCons (aI .i64) (lCons (aI .i64) (lCons (aI .i64) lNil))), ret := (rOne aB), f := fun p => spec_l1In.f k p.1 p.2.1 p.2.2.1 }
noncomputable def spec_l1In.c (k : Nat) : List (Nat × CE) := []
noncomputable def spec_l1In.bd : Code := match Tryz.f27.body with | some c => c | none => .skip
noncomputable def spec_l1In.g (k : Nat) : List (Nat × LE) := []
theorem spec_l1In.link (k : Nat) (a0 : Int) (a1 : Int) (a2 : Int) : evFun (mkCx Tryz.prog (spec_l1In.c k) (spec_l1In.g k) : Cx Bool) Tryz.f27 ((spec_l1In.e k).args.enc (a0, a1, a2, ())) (spec_l1In.e k).ret.dec = spec_l1In.f k a0 a1 a2 := by kernel_rfl
theorem spec_l1In.ok1 (k : Nat) (hC : AllFun Tryz.prog (spec_l1In.c k)) : Fun Tryz.prog 27 (spec_l1In.e k).G := fun_ok mixed (body := spec_l1In.bd) Tryz.func27 (by kernel_rfl) (by kernel_rfl) (by kernel_rfl) hC (loops_all 0 (by kernel_rfl) fun i hi => absurd hi (Nat.not_lt_zero i)) (spec_l1In.e k) (fun a => Nat.le_of_ble_eq_true (by kernel_rfl)) fun a b h => (spec_l1In.link k a.1 a.2.1 a.2.2.1).trans h
theorem spec_l1In.ok (k : Nat) : Fun Tryz.prog 27 (spec_l1In.e k).G := spec_l1In.ok1 k trivial

noncomputable def spec_NumOk.H3 : Hd := ⟨[], [1, 3, 4], [1], [], []⟩
@[reducible] def spec_NumOk.A3 : Type := ((Unit × Int × Int × Unit) × (Nm × Unit))
noncomputable def spec_NumOk.Z3 : SC spec_NumOk.A3 := sC spec_NumOk.H3 (eCons 1 (tRef 1 0) (eCons 3 (tP (aI .i64)) (eCons 4 (tP (aI .i64)) eNil))) (bCons 1 (xVr cNum) bNil)
@[reducible] def spec_NumOk.B3 : Type := ((Bool × Unit) × (Unit)) ⊕ ((Unit × Int × Unit) × (Nm × Unit))
noncomputable def spec_NumOk.X3 : XC spec_NumOk.B3 := xOr (xRet (sC ⟨[], [2], [], [], []⟩ (eCons 2 (tP aB) eNil) bNil)) (xExit 0 (sC ⟨[], [1, 3], [1], [], []⟩ (eCons 1 (tRef 1 0) (eCons 3 (tP (aI .i64)) eNil)) (bCons 1 (xVr cNum) bNil)))
noncomputable def spec_NumOk.s3 (k : Nat)  (J : Int → Int → Nm → Option spec_NumOk.B3) (x3 : Int) (x4 : Int) (b1 : Nm) : Option spec_NumOk.B3 :=
  if (decide (x4 < x3)) = true then (if (decide (x4 ≤ 120)) = true then (if 0 ≤ x4 then (if x4 < (b1.d.length : Int) then ((spec_l1In.f k  (rd b1.d x4) 0 9999).bind fun t1 => if (!t1) = true then (some (.inl ((false, ()), (())))) else (J x3 (W (x4 + 1)) b1)) else none) else none) else (some (.inr (((), x3, ()), (b1, ()))))) else (some (.inr (((), x3, ()), (b1, ()))))
noncomputable def spec_NumOk.l3 (k : Nat)  : Nat → Int → Int → Nm → Option spec_NumOk.B3
  | 0, _, _, _ => none
  | n + 1, x3, x4, b1 => spec_NumOk.s3 k (spec_NumOk.l3 k n) x3 x4 b1
noncomputable def spec_NumOk.f (k : Nat) (a0 : Nm) : Option Bool :=
  (spec_NumOk.l3 k k (a0.d.length : Int) 0 a0).bind fun | .inl r2 => (some r2.1.1) | .inr x3 => (if (decide (x3.1.2.1 ≤ 120)) = true then (if (x3.1.2.1 == 0) = true then (if (!x3.2.1.neg) = true then (some true) else (if (decide (x3.1.2.1 > 0)) = true then (if 0 ≤ (W (x3.1.2.1 - 1)) then (if (W (x3.1.2.1 - 1)) < (x3.2.1.d.length : Int) then (some ((rd x3.2.1.d (W (x3.1.2.1 - 1))) != 0)) else none) else none) else (some false))) else (if (decide (x3.1.2.1 > 0)) = true then (if 0 ≤ (W (x3.1.2.1 - 1)) then (if (W (x3.1.2.1 - 1)) < (x3.2.1.d.length : Int) then (some ((rd x3.2.1.d (W (x3.1.2.1 - 1))) != 0)) else none) else none) else (some false))) else (some false))
noncomputable def spec_NumOk.e (k : Nat) : FE := { α := Nm × Unit, β := Bool, args := (lCons aNum lNil), ret := (rOne aB), f := fun p => spec_NumOk.f k p.1 }
noncomputable def spec_NumOk.c (k : Nat) : List (Nat × CE) := [(27, .fn (spec_l1In.e k))]
noncomputable def spec_NumOk.bd : Code := match Tryz.f81.body with | some c => c | none => .skip
noncomputable def spec_NumOk.e3 (k : Nat) : LE := { H := spec_NumOk.H3, α := spec_NumOk.A3, β := spec_NumOk.B3, st := spec_NumOk.Z3, xt := spec_NumOk.X3, f := fun p => spec_NumOk.l3 k k p.1.2.1 p.1.2.2.1 p.2.1 }
noncomputable def spec_NumOk.g (k : Nat) : List (Nat × LE) := [(3, spec_NumOk.e3 k)]
theorem spec_NumOk.t3 (k : Nat) (I : S2 → Option spec_NumOk.B3) (x3 : Int) (x4 : Int) (b1 : Nm) : stepOf (mkCx Tryz.prog (spec_NumOk.c k) (spec_NumOk.g k) : Cx spec_NumOk.B3) (loopAt spec_NumOk.bd 0) spec_NumOk.H3 spec_NumOk.X3.dec I (spec_NumOk.Z3.enc (((), x3, x4, ()), (b1, ()))) = spec_NumOk.s3 k (fun x3 x4 b1 => I (spec_NumOk.Z3.enc (((), x3, x4, ()), (b1, ())))) x3 x4 b1 := by kernel_rfl
theorem spec_NumOk.i3 (k : Nat) : ∀ (n : Nat) (x3 : Int) (x4 : Int) (b1 : Nm), iter (evCode (mkCx Tryz.prog (spec_NumOk.c k) (spec_NumOk.g k) : Cx spec_NumOk.B3) (loopAt spec_NumOk.bd 0)) spec_NumOk.H3 spec_NumOk.X3.dec n (spec_NumOk.Z3.enc (((), x3, x4, ()), (b1, ()))) = spec_NumOk.l3 k n x3 x4 b1
  | 0, _, _, _ => rfl
  | n + 1, x3, x4, b1 => ((iter_step _ _ _ _ n _).trans (spec_NumOk.t3 k _ x3 x4 b1)).trans (congrArg (fun J => spec_NumOk.s3 k J x3 x4 b1) (funext fun x3 => funext fun x4 => funext fun b1 => spec_NumOk.i3 k n x3 x4 b1))
theorem spec_NumOk.to3 (k : Nat) (hC : AllFun Tryz.prog (spec_NumOk.c k)) : LoopTo Tryz.prog 48 (spec_NumOk.e3 k) (loopAt spec_NumOk.bd 0) := loop_to mixed hC (by kernel_rfl) (loops_all 0 (by kernel_rfl) fun i hi => absurd hi (Nat.not_lt_zero i)) fun a b h => ⟨k, (spec_NumOk.i3 k k a.1.2.1 a.1.2.2.1 a.2.1).trans h⟩
theorem spec_NumOk.link (k : Nat) (a0 : Nm) : evFun (mkCx Tryz.prog (spec_NumOk.c k) (spec_NumOk.g k) : Cx Bool) Tryz.f81 ((spec_NumOk.e k).args.enc (a0, ())) (spec_NumOk.e k).ret.dec = spec_NumOk.f k a0 := by kernel_rfl
theorem spec_NumOk.ok1 (k : Nat) (hC : AllFun Tryz.prog (spec_NumOk.c k)) : Fun Tryz.prog 81 (spec_NumOk.e k).G := fun_ok mixed (body := spec_NumOk.bd) Tryz.func81 (by kernel_rfl) (by kernel_rfl) (by kernel_rfl) hC (loops_all 1 (by kernel_rfl) fun i hi => by obtain rfl : i = 0 := Nat.lt_one_iff.1 hi; exact ⟨spec_NumOk.e3 k, by kernel_rfl, spec_NumOk.to3 k hC⟩) (spec_NumOk.e k) (fun a => Nat.le_of_ble_eq_true (by kernel_rfl)) fun a b h => (spec_NumOk.link k a.1).trans h
theorem spec_NumOk.ok (k : Nat) : Fun Tryz.prog 81 (spec_NumOk.e k).G := spec_NumOk.ok1 k ⟨spec_l1In.ok k, trivial⟩

noncomputable def spec_l1Mag.f (k : Nat) (a0 : Nm) : Option (List Int) :=
  (spec_NumOk.f k  a0).bind fun t1 => if (!t1) = true then (some ([] : List Int)) else (some a0.d)
noncomputable def spec_l1Mag.e (k : Nat) : FE := { α := Nm × Unit, β := List Int, args := (lCons aNum lNil), ret := (rSh (.i .i64)), f := fun p => spec_l1Mag.f k p.1 }
noncomputable def spec_l1Mag.c (k : Nat) : List (Nat × CE) := [(81, .fn (spec_NumOk.e k))]
noncomputable def spec_l1Mag.bd : Code := match Tryz.f51.body with | some c => c | none => .skip
noncomputable def spec_l1Mag.g (k : Nat) : List (Nat × LE) := []
theorem spec_l1Mag.link (k : Nat) (a0 : Nm) : evFun (mkCx Tryz.prog (spec_l1Mag.c k) (spec_l1Mag.g k) : Cx (List Int)) Tryz.f51 ((spec_l1Mag.e k).args.enc (a0, ())) (spec_l1Mag.e k).ret.dec = spec_l1Mag.f k a0 := by kernel_rfl
theorem spec_l1Mag.ok1 (k : Nat) (hC : AllFun Tryz.prog (spec_l1Mag.c k)) : Fun Tryz.prog 51 (spec_l1Mag.e k).G := fun_ok mixed (body := spec_l1Mag.bd) Tryz.func51 (by kernel_rfl) (by kernel_rfl) (by kernel_rfl) hC (loops_all 0 (by kernel_rfl) fun i hi => absurd hi (Nat.not_lt_zero i)) (spec_l1Mag.e k) (fun a => Nat.le_of_ble_eq_true (by kernel_rfl)) fun a b h => (spec_l1Mag.link k a.1).trans h
theorem spec_l1Mag.ok (k : Nat) : Fun Tryz.prog 51 (spec_l1Mag.e k).G := spec_l1Mag.ok1 k ⟨spec_NumOk.ok k, trivial⟩

noncomputable def spec_l1CmpMag.H6 : Hd := ⟨[], [0, 1, 5], [], [], []⟩
@[reducible] def spec_l1CmpMag.A6 : Type := (((List Int) × (List Int) × Int × Unit) × (Unit))
noncomputable def spec_l1CmpMag.Z6 : SC spec_l1CmpMag.A6 := sC spec_l1CmpMag.H6 (eCons 0 (tP (aSl (.i .i64))) (eCons 1 (tP (aSl (.i .i64))) (eCons 5 (tP (aI .i64)) eNil))) bNil
@[reducible] def spec_l1CmpMag.B6 : Type := ((Int × Unit) × (Unit)) ⊕ ((Unit) × (Unit))
noncomputable def spec_l1CmpMag.X6 : XC spec_l1CmpMag.B6 := xOr (xRet (sC ⟨[], [4], [], [], []⟩ (eCons 4 (tP (aI .i64)) eNil) bNil)) (xExit 0 (sC ⟨[], [], [], [], []⟩ eNil bNil))
noncomputable def spec_l1CmpMag.s6 (k : Nat)  (J : (List Int) → (List Int) → Int → Option spec_l1CmpMag.B6) (x0 : List Int) (x1 : List Int) (x5 : Int) : Option spec_l1CmpMag.B6 :=
  if (decide (x5 ≥ 0)) = true then (if 0 ≤ x5 then (if x5 < (x0.length : Int) then (if 0 ≤ x5 then (if x5 < (x1.length : Int) then (if ((rd x0 x5) != (rd x1 x5)) = true then (if 0 ≤ x5 then (if x5 < (x0.length : Int) then (if 0 ≤ x5 then (if x5 < (x1.length : Int) then (if (decide ((rd x0 x5) < (rd x1 x5))) = true then (some (.inl (((-1), ()), (())))) else (some (.inl ((1, ()), (()))))) else none) else none) else none) else none) else (J x0 x1 (W (x5 - 1)))) else none) else none) else none) else none) else (some (.inr ((()), (()))))
noncomputable def spec_l1CmpMag.l6 (k : Nat)  : Nat → (List Int) → (List Int) → Int → Option spec_l1CmpMag.B6
  | 0, _, _, _ => none
  | n + 1, x0, x1, x5 => spec_l1CmpMag.s6 k (spec_l1CmpMag.l6 k n) x0 x1 x5
noncomputable def spec_l1CmpMag.f (k : Nat) (a0 : List Int) (a1 : List Int) : Option Int :=
  if ((a0.length : Int) != (a1.length : Int)) = true then (if (decide ((a0.length : Int) < (a1.length : Int))) = true then (some (-1)) else (some 1)) else ((spec_l1CmpMag.l6 k k a0 a1 (W ((a0.length : Int) - 1))).bind fun | .inl r1 => (some r1.1.1) | .inr x2 => (some 0))
noncomputable def spec_l1CmpMag.e (k : Nat) : FE := { α := (List Int) × (List Int) × Unit, β := Int, args := (lCons (aSl (.i .i64)) (lCons (aSl (.i .i64)) lNil)), ret := (rOne (aI .i64)), f := fun p => spec_l1CmpMag.f k p.1 p.2.1 }
noncomputable def spec_l1CmpMag.c (k : Nat) : List (Nat × CE) := []
noncomputable def spec_l1CmpMag.bd : Code := match Tryz.f47.body with | some c => c | none => .skip
noncomputable def spec_l1CmpMag.e6 (k : Nat) : LE := { H := spec_l1CmpMag.H6, α := spec_l1CmpMag.A6, β := spec_l1CmpMag.B6, st := spec_l1CmpMag.Z6, xt := spec_l1CmpMag.X6, f := fun p => spec_l1CmpMag.l6 k k p.1.1 p.1.2.1 p.1.2.2.1 }
noncomputable def spec_l1CmpMag.g (k : Nat) : List (Nat × LE) := [(6, spec_l1CmpMag.e6 k)]
theorem spec_l1CmpMag.t6 (k : Nat) (I : S2 → Option spec_l1CmpMag.B6) (x0 : List Int) (x1 : List Int) (x5 : Int) : stepOf (mkCx Tryz.prog (spec_l1CmpMag.c k) (spec_l1CmpMag.g k) : Cx spec_l1CmpMag.B6) (loopAt spec_l1CmpMag.bd 0) spec_l1CmpMag.H6 spec_l1CmpMag.X6.dec I (spec_l1CmpMag.Z6.enc ((x0, x1, x5, ()), (()))) = spec_l1CmpMag.s6 k (fun x0 x1 x5 => I (spec_l1CmpMag.Z6.enc ((x0, x1, x5, ()), (())))) x0 x1 x5 := by kernel_rfl
theorem spec_l1CmpMag.i6 (k : Nat) : ∀ (n : Nat) (x0 : List Int) (x1 : List Int) (x5 : Int), iter (evCode (mkCx Tryz.prog (spec_l1CmpMag.c k) (spec_l1CmpMag.g k) : Cx spec_l1CmpMag.B6) (loopAt spec_l1CmpMag.bd 0)) spec_l1CmpMag.H6 spec_l1CmpMag.X6.dec n (spec_l1CmpMag.Z6.enc ((x0, x1, x5, ()), (()))) = spec_l1CmpMag.l6 k n x0 x1 x5
  | 0, _, _, _ => rfl
  | n + 1, x0, x1, x5 => ((iter_step _ _ _ _ n _).trans (spec_l1CmpMag.t6 k _ x0 x1 x5)).trans (congrArg (fun J => spec_l1CmpMag.s6 k J x0 x1 x5) (funext fun x0 => funext fun x1 => funext fun x5 => spec_l1CmpMag.i6 k n x0 x1 x5))
theorem spec_l1CmpMag.to6 (k : Nat) (hC : AllFun Tryz.prog (spec_l1CmpMag.c k)) : LoopTo Tryz.prog 41 (spec_l1CmpMag.e6 k) (loopAt spec_l1CmpMag.bd 0) := loop_to mixed hC (by kernel_rfl) (loops_all 0 (by kernel_rfl) fun i hi => absurd hi (Nat.not_lt_zero i)) fun a b h => ⟨k, (spec_l1CmpMag.i6 k k a.1.1 a.1.2.1 a.1.2.2.1).trans h⟩
theorem spec_l1CmpMag.link (k : Nat) (a0 : List Int) (a1 : List Int) : evFun (mkCx Tryz.prog (spec_l1CmpMag.c k) (spec_l1CmpMag.g k) : Cx Int) Tryz.f47 ((spec_l1CmpMag.e k).args.enc (a0, a1, ())) (spec_l1CmpMag.e k).ret.dec = spec_l1CmpMag.f k a0 a1 := by kernel_rfl
theorem spec_l1CmpMag.ok1 (k : Nat) (hC : AllFun Tryz.prog (spec_l1CmpMag.c k)) : Fun Tryz.prog 47 (spec_l1CmpMag.e k).G := fun_ok mixed (body := spec_l1CmpMag.bd) Tryz.func47 (by kernel_rfl) (by kernel_rfl) (by kernel_rfl) hC (loops_all 1 (by kernel_rfl) fun i hi => by obtain rfl : i = 0 := Nat.lt_one_iff.1 hi; exact ⟨spec_l1CmpMag.e6 k, by kernel_rfl, spec_l1CmpMag.to6 k hC⟩) (spec_l1CmpMag.e k) (fun a => Nat.le_of_ble_eq_true (by kernel_rfl)) fun a b h => (spec_l1CmpMag.link k a.1 a.2.1).trans h
theorem spec_l1CmpMag.ok (k : Nat) : Fun Tryz.prog 47 (spec_l1CmpMag.e k).G := spec_l1CmpMag.ok1 k trivial

noncomputable def spec_l1Guess.H3 : Hd := ⟨[], [0, 1, 5, 6], [], [], []⟩
@[reducible] def spec_l1Guess.A3 : Type := (((List Int) × (List Int) × Int × Int × Unit) × (Unit))
noncomputable def spec_l1Guess.Z3 : SC spec_l1Guess.A3 := sC spec_l1Guess.H3 (eCons 0 (tP (aSl (.i .i64))) (eCons 1 (tP (aSl (.i .i64))) (eCons 5 (tP (aI .i64)) (eCons 6 (tP (aI .i64)) eNil)))) bNil
@[reducible] def spec_l1Guess.B3 : Type := (((List Int) × Int × Unit) × (Unit))
noncomputable def spec_l1Guess.X3 : XC spec_l1Guess.B3 := xExit 0 (sC ⟨[], [1, 5], [], [], []⟩ (eCons 1 (tP (aSl (.i .i64))) (eCons 5 (tP (aI .i64)) eNil)) bNil)
noncomputable def spec_l1Guess.s3 (k : Nat)  (J : (List Int) → (List Int) → Int → Int → Option spec_l1Guess.B3) (x0 : List Int) (x1 : List Int) (x5 : Int) (x6 : Int) : Option spec_l1Guess.B3 :=
  if (decide (x6 ≥ 0)) = true then (if (decide (x6 ≥ (W ((x1.length : Int) - 3)))) = true then (if 0 ≤ x6 then (if x6 < (x0.length : Int) then (J x0 x1 (W ((W (x5 * 10000)) + (rd x0 x6))) (W (x6 - 1))) else none) else none) else (some ((x1, x5, ()), (())))) else (some ((x1, x5, ()), (())))
noncomputable def spec_l1Guess.l3 (k : Nat)  : Nat → (List Int) → (List Int) → Int → Int → Option spec_l1Guess.B3
  | 0, _, _, _, _ => none
  | n + 1, x0, x1, x5, x6 => spec_l1Guess.s3 k (spec_l1Guess.l3 k n) x0 x1 x5 x6
noncomputable def spec_l1Guess.H8 : Hd := ⟨[], [1, 5, 7, 8], [], [], []⟩
@[reducible] def spec_l1Guess.A8 : Type := (((List Int) × Int × Int × Int × Unit) × (Unit))
noncomputable def spec_l1Guess.Z8 : SC spec_l1Guess.A8 := sC spec_l1Guess.H8 (eCons 1 (tP (aSl (.i .i64))) (eCons 5 (tP (aI .i64)) (eCons 7 (tP (aI .i64)) (eCons 8 (tP (aI .i64)) eNil)))) bNil
@[reducible] def spec_l1Guess.B8 : Type := (((List Int) × Int × Int × Unit) × (Unit))
noncomputable def spec_l1Guess.X8 : XC spec_l1Guess.B8 := xExit 2 (sC ⟨[], [1, 5, 7], [], [], []⟩ (eCons 1 (tP (aSl (.i .i64))) (eCons 5 (tP (aI .i64)) (eCons 7 (tP (aI .i64)) eNil))) bNil)
noncomputable def spec_l1Guess.s8 (k : Nat)  (J : (List Int) → Int → Int → Int → Option spec_l1Guess.B8) (x1 : List Int) (x5 : Int) (x7 : Int) (x8 : Int) : Option spec_l1Guess.B8 :=
  if (decide (x8 ≥ 0)) = true then (if (decide (x8 ≥ (W ((x1.length : Int) - 3)))) = true then (if 0 ≤ x8 then (if x8 < (x1.length : Int) then (J x1 x5 (W ((W (x7 * 10000)) + (rd x1 x8))) (W (x8 - 1))) else none) else none) else (some ((x1, x5, x7, ()), (())))) else (some ((x1, x5, x7, ()), (())))
noncomputable def spec_l1Guess.l8 (k : Nat)  : Nat → (List Int) → Int → Int → Int → Option spec_l1Guess.B8
  | 0, _, _, _, _ => none
  | n + 1, x1, x5, x7, x8 => spec_l1Guess.s8 k (spec_l1Guess.l8 k n) x1 x5 x7 x8
noncomputable def spec_l1Guess.f (k : Nat) (a0 : List Int) (a1 : List Int) : Option Int :=
  (spec_l1Guess.l3 k k a0 a1 0 (W ((a0.length : Int) - 1))).bind fun x1 => (spec_l1Guess.l8 k k x1.1.1 x1.1.2.1 0 (W ((x1.1.1.length : Int) - 1))).bind fun x2 => if (decide ((x2.1.1.length : Int) > 3)) = true then (if (W (x2.1.2.2.1 + 1)) = 0 then none else (if (decide ((W (x2.1.2.1.tdiv (W (x2.1.2.2.1 + 1)))) > 0)) = true then (if (W (x2.1.2.2.1 + 1)) = 0 then none else (some (W (x2.1.2.1.tdiv (W (x2.1.2.2.1 + 1)))))) else (some 1))) else (if x2.1.2.2.1 = 0 then none else (if (decide ((W (x2.1.2.1.tdiv x2.1.2.2.1)) > 0)) = true then (if x2.1.2.2.1 = 0 then none else (some (W (x2.1.2.1.tdiv x2.1.2.2.1)))) else (some 1)))
noncomputable def spec_l1Guess.e (k : Nat) : FE := { α := (List Int) × (List Int) × Unit, β := Int, args := (lCons (aSl (.i .i64)) (lCons (aSl (.i .i64)) lNil)), ret := (rOne (aI .i64)), f := fun p => spec_l1Guess.f k p.1 p.2.1 }
noncomputable def spec_l1Guess.c (k : Nat) : List (Nat × CE) := []
noncomputable def spec_l1Guess.bd : Code := match Tryz.f48.body with | some c => c | none => .skip
noncomputable def spec_l1Guess.e3 (k : Nat) : LE := { H := spec_l1Guess.H3, α := spec_l1Guess.A3, β := spec_l1Guess.B3, st := spec_l1Guess.Z3, xt := spec_l1Guess.X3, f := fun p => spec_l1Guess.l3 k k p.1.1 p.1.2.1 p.1.2.2.1 p.1.2.2.2.1 }
noncomputable def spec_l1Guess.e8 (k : Nat) : LE := { H := spec_l1Guess.H8, α := spec_l1Guess.A8, β := spec_l1Guess.B8, st := spec_l1Guess.Z8, xt := spec_l1Guess.X8, f := fun p => spec_l1Guess.l8 k k p.1.1 p.1.2.1 p.1.2.2.1 p.1.2.2.2.1 }
noncomputable def spec_l1Guess.g (k : Nat) : List (Nat × LE) := [(3, spec_l1Guess.e3 k), (8, spec_l1Guess.e8 k)]
theorem spec_l1Guess.t3 (k : Nat) (I : S2 → Option spec_l1Guess.B3) (x0 : List Int) (x1 : List Int) (x5 : Int) (x6 : Int) : stepOf (mkCx Tryz.prog (spec_l1Guess.c k) (spec_l1Guess.g k) : Cx spec_l1Guess.B3) (loopAt spec_l1Guess.bd 0) spec_l1Guess.H3 spec_l1Guess.X3.dec I (spec_l1Guess.Z3.enc ((x0, x1, x5, x6, ()), (()))) = spec_l1Guess.s3 k (fun x0 x1 x5 x6 => I (spec_l1Guess.Z3.enc ((x0, x1, x5, x6, ()), (())))) x0 x1 x5 x6 := by kernel_rfl
theorem spec_l1Guess.i3 (k : Nat) : ∀ (n : Nat) (x0 : List Int) (x1 : List Int) (x5 : Int) (x6 : Int), iter (evCode (mkCx Tryz.prog (spec_l1Guess.c k) (spec_l1Guess.g k) : Cx spec_l1Guess.B3) (loopAt spec_l1Guess.bd 0)) spec_l1Guess.H3 spec_l1Guess.X3.dec n (spec_l1Guess.Z3.enc ((x0, x1, x5, x6, ()), (()))) = spec_l1Guess.l3 k n x0 x1 x5 x6
  | 0, _, _, _, _ => rfl
  | n + 1, x0, x1, x5, x6 => ((iter_step _ _ _ _ n _).trans (spec_l1Guess.t3 k _ x0 x1 x5 x6)).trans (congrArg (fun J => spec_l1Guess.s3 k J x0 x1 x5 x6) (funext fun x0 => funext fun x1 => funext fun x5 => funext fun x6 => spec_l1Guess.i3 k n x0 x1 x5 x6))
theorem spec_l1Guess.t8 (k : Nat) (I : S2 → Option spec_l1Guess.B8) (x1 : List Int) (x5 : Int) (x7 : Int) (x8 : Int) : stepOf (mkCx Tryz.prog (spec_l1Guess.c k) (spec_l1Guess.g k) : Cx spec_l1Guess.B8) (loopAt spec_l1Guess.bd 1) spec_l1Guess.H8 spec_l1Guess.X8.dec I (spec_l1Guess.Z8.enc ((x1, x5, x7, x8, ()), (()))) = spec_l1Guess.s8 k (fun x1 x5 x7 x8 => I (spec_l1Guess.Z8.enc ((x1, x5, x7, x8, ()), (())))) x1 x5 x7 x8 := by kernel_rfl
theorem spec_l1Guess.i8 (k : Nat) : ∀ (n : Nat) (x1 : List Int) (x5 : Int) (x7 : Int) (x8 : Int), iter (evCode (mkCx Tryz.prog (spec_l1Guess.c k) (spec_l1Guess.g k) : Cx spec_l1Guess.B8) (loopAt spec_l1Guess.bd 1)) spec_l1Guess.H8 spec_l1Guess.X8.dec n (spec_l1Guess.Z8.enc ((x1, x5, x7, x8, ()), (()))) = spec_l1Guess.l8 k n x1 x5 x7 x8
  | 0, _, _, _, _ => rfl
  | n + 1, x1, x5, x7, x8 => ((iter_step _ _ _ _ n _).trans (spec_l1Guess.t8 k _ x1 x5 x7 x8)).trans (congrArg (fun J => spec_l1Guess.s8 k J x1 x5 x7 x8) (funext fun x1 => funext fun x5 => funext fun x7 => funext fun x8 => spec_l1Guess.i8 k n x1 x5 x7 x8))
theorem spec_l1Guess.to3 (k : Nat) (hC : AllFun Tryz.prog (spec_l1Guess.c k)) : LoopTo Tryz.prog 63 (spec_l1Guess.e3 k) (loopAt spec_l1Guess.bd 0) := loop_to mixed hC (by kernel_rfl) (loops_all 0 (by kernel_rfl) fun i hi => absurd hi (Nat.not_lt_zero i)) fun a b h => ⟨k, (spec_l1Guess.i3 k k a.1.1 a.1.2.1 a.1.2.2.1 a.1.2.2.2.1).trans h⟩
theorem spec_l1Guess.to8 (k : Nat) (hC : AllFun Tryz.prog (spec_l1Guess.c k)) : LoopTo Tryz.prog 63 (spec_l1Guess.e8 k) (loopAt spec_l1Guess.bd 1) := loop_to mixed hC (by kernel_rfl) (loops_all 0 (by kernel_rfl) fun i hi => absurd hi (Nat.not_lt_zero i)) fun a b h => ⟨k, (spec_l1Guess.i8 k k a.1.1 a.1.2.1 a.1.2.2.1 a.1.2.2.2.1).trans h⟩
theorem spec_l1Guess.link (k : Nat) (a0 : List Int) (a1 : List Int) : evFun (mkCx Tryz.prog (spec_l1Guess.c k) (spec_l1Guess.g k) : Cx Int) Tryz.f48 ((spec_l1Guess.e k).args.enc (a0, a1, ())) (spec_l1Guess.e k).ret.dec = spec_l1Guess.f k a0 a1 := by kernel_rfl
theorem spec_l1Guess.ok1 (k : Nat) (hC : AllFun Tryz.prog (spec_l1Guess.c k)) : Fun Tryz.prog 48 (spec_l1Guess.e k).G := fun_ok mixed (body := spec_l1Guess.bd) Tryz.func48 (by kernel_rfl) (by kernel_rfl) (by kernel_rfl) hC (loops_all 2 (by kernel_rfl) fun i hi => match i, hi with | 0, _ => ⟨spec_l1Guess.e3 k, by kernel_rfl, spec_l1Guess.to3 k hC⟩ | 1, _ => ⟨spec_l1Guess.e8 k, by kernel_rfl, spec_l1Guess.to8 k hC⟩ | i + 2, hi => absurd hi (by omega)) (spec_l1Guess.e k) (fun a => Nat.le_of_ble_eq_true (by kernel_rfl)) fun a b h => (spec_l1Guess.link k a.1 a.2.1).trans h
theorem spec_l1Guess.ok (k : Nat) : Fun Tryz.prog 48 (spec_l1Guess.e k).G := spec_l1Guess.ok1 k trivial

noncomputable def spec_l1SubMag.H4 : Hd := ⟨[], [0, 1, 5, 6, 7], [], [], []⟩
@[reducible] def spec_l1SubMag.A4 : Type := (((List Int) × (List Int) × Unit × Int × Int × Unit) × ((List Int) × Unit))
noncomputable def spec_l1SubMag.Z4 : SC spec_l1SubMag.A4 := sC spec_l1SubMag.H4 (eCons 0 (tP (aSl (.i .i64))) (eCons 1 (tP (aSl (.i .i64))) (eCons 5 (tOsl 1000005) (eCons 6 (tP (aI .i64)) (eCons 7 (tP (aI .i64)) eNil))))) (bCons 1000005 (xRow 3 (.i .i64)) bNil)
@[reducible] def spec_l1SubMag.B4 : Type := ((Unit × Unit) × ((List Int) × Unit))
noncomputable def spec_l1SubMag.X4 : XC spec_l1SubMag.B4 := xExit 0 (sC ⟨[], [5], [], [], []⟩ (eCons 5 (tOsl 1000005) eNil) (bCons 1000005 (xRow 3 (.i .i64)) bNil))
noncomputable def spec_l1SubMag.s4 (k : Nat)  (J : (List Int) → (List Int) → Int → Int → (List Int) → Option spec_l1SubMag.B4) (x0 : List Int) (x1 : List Int) (x6 : Int) (x7 : Int) (b1000005 : List Int) : Option spec_l1SubMag.B4 :=
  if (decide (x7 < (x0.length : Int))) = true then (if 0 ≤ x7 then (if x7 < (x0.length : Int) then (if (decide (x7 < (x1.length : Int))) = true then (if 0 ≤ x7 then (if x7 < (x1.length : Int) then (if (decide ((W ((W ((rd x0 x7) - x6)) - (rd x1 x7))) < 0)) = true then (if lt47 (b1000005.length + ([(W ((W ((W ((rd x0 x7) - x6)) - (rd x1 x7))) + 10000))] : List Int).length) = true then (J x0 x1 1 (W (x7 + 1)) (b1000005 ++ ([(W ((W ((W ((rd x0 x7) - x6)) - (rd x1 x7))) + 10000))] : List Int))) else none) else (if lt47 (b1000005.length + ([(W ((W ((rd x0 x7) - x6)) - (rd x1 x7)))] : List Int).length) = true then (J x0 x1 0 (W (x7 + 1)) (b1000005 ++ ([(W ((W ((rd x0 x7) - x6)) - (rd x1 x7)))] : List Int))) else none)) else none) else none) else (if (decide ((W ((rd x0 x7) - x6)) < 0)) = true then (if lt47 (b1000005.length + ([(W ((W ((rd x0 x7) - x6)) + 10000))] : List Int).length) = true then (J x0 x1 1 (W (x7 + 1)) (b1000005 ++ ([(W ((W ((rd x0 x7) - x6)) + 10000))] : List Int))) else none) else (if lt47 (b1000005.length + ([(W ((rd x0 x7) - x6))] : List Int).length) = true then (J x0 x1 0 (W (x7 + 1)) (b1000005 ++ ([(W ((rd x0 x7) - x6))] : List Int))) else none))) else none) else none) else (some (((), ()), (b1000005, ())))
noncomputable def spec_l1SubMag.l4 (k : Nat)  : Nat → (List Int) → (List Int) → Int → Int → (List Int) → Option spec_l1SubMag.B4
  | 0, _, _, _, _, _ => none
  | n + 1, x0, x1, x6, x7, b1000005 => spec_l1SubMag.s4 k (spec_l1SubMag.l4 k n) x0 x1 x6 x7 b1000005
noncomputable def spec_l1SubMag.f (k : Nat) (a0 : List Int) (a1 : List Int) : Option (List Int) :=
  (spec_l1SubMag.l4 k k a0 a1 0 0 ([] : List Int)).bind fun x1 => some x1.2.1
noncomputable def spec_l1SubMag.e (k : Nat) : FE := { α := (List Int) × (List Int) × Unit, β := List Int, args := (lCons (aSl (.i .i64)) (lCons (aSl (.i .i64)) lNil)), ret := (rOwn 3 (.i .i64)), f := fun p => spec_l1SubMag.f k p.1 p.2.1 }
noncomputable def spec_l1SubMag.c (k : Nat) : List (Nat × CE) := []
noncomputable def spec_l1SubMag.bd : Code := match Tryz.f49.body with | some c => c | none => .skip
noncomputable def spec_l1SubMag.e4 (k : Nat) : LE := { H := spec_l1SubMag.H4, α := spec_l1SubMag.A4, β := spec_l1SubMag.B4, st := spec_l1SubMag.Z4, xt := spec_l1SubMag.X4, f := fun p => spec_l1SubMag.l4 k k p.1.1 p.1.2.1 p.1.2.2.2.1 p.1.2.2.2.2.1 p.2.1 }
noncomputable def spec_l1SubMag.g (k : Nat) : List (Nat × LE) := [(4, spec_l1SubMag.e4 k)]
theorem spec_l1SubMag.t4 (k : Nat) (I : S2 → Option spec_l1SubMag.B4) (x0 : List Int) (x1 : List Int) (x6 : Int) (x7 : Int) (b1000005 : List Int) : stepOf (mkCx Tryz.prog (spec_l1SubMag.c k) (spec_l1SubMag.g k) : Cx spec_l1SubMag.B4) (loopAt spec_l1SubMag.bd 0) spec_l1SubMag.H4 spec_l1SubMag.X4.dec I (spec_l1SubMag.Z4.enc ((x0, x1, (), x6, x7, ()), (b1000005, ()))) = spec_l1SubMag.s4 k (fun x0 x1 x6 x7 b1000005 => I (spec_l1SubMag.Z4.enc ((x0, x1, (), x6, x7, ()), (b1000005, ())))) x0 x1 x6 x7 b1000005 := by kernel_rfl
theorem spec_l1SubMag.i4 (k : Nat) : ∀ (n : Nat) (x0 : List Int) (x1 : List Int) (x6 : Int) (x7 : Int) (b1000005 : List Int), iter (evCode (mkCx Tryz.prog (spec_l1SubMag.c k) (spec_l1SubMag.g k) : Cx spec_l1SubMag.B4) (loopAt spec_l1SubMag.bd 0)) spec_l1SubMag.H4 spec_l1SubMag.X4.dec n (spec_l1SubMag.Z4.enc ((x0, x1, (), x6, x7, ()), (b1000005, ()))) = spec_l1SubMag.l4 k n x0 x1 x6 x7 b1000005
  | 0, _, _, _, _, _ => rfl
  | n + 1, x0, x1, x6, x7, b1000005 => ((iter_step _ _ _ _ n _).trans (spec_l1SubMag.t4 k _ x0 x1 x6 x7 b1000005)).trans (congrArg (fun J => spec_l1SubMag.s4 k J x0 x1 x6 x7 b1000005) (funext fun x0 => funext fun x1 => funext fun x6 => funext fun x7 => funext fun b1000005 => spec_l1SubMag.i4 k n x0 x1 x6 x7 b1000005))
theorem spec_l1SubMag.to4 (k : Nat) (hC : AllFun Tryz.prog (spec_l1SubMag.c k)) : LoopTo Tryz.prog 41 (spec_l1SubMag.e4 k) (loopAt spec_l1SubMag.bd 0) := loop_to mixed hC (by kernel_rfl) (loops_all 0 (by kernel_rfl) fun i hi => absurd hi (Nat.not_lt_zero i)) fun a b h => ⟨k, (spec_l1SubMag.i4 k k a.1.1 a.1.2.1 a.1.2.2.2.1 a.1.2.2.2.2.1 a.2.1).trans h⟩
theorem spec_l1SubMag.link (k : Nat) (a0 : List Int) (a1 : List Int) : evFun (mkCx Tryz.prog (spec_l1SubMag.c k) (spec_l1SubMag.g k) : Cx (List Int)) Tryz.f49 ((spec_l1SubMag.e k).args.enc (a0, a1, ())) (spec_l1SubMag.e k).ret.dec = spec_l1SubMag.f k a0 a1 := by kernel_rfl
theorem spec_l1SubMag.ok1 (k : Nat) (hC : AllFun Tryz.prog (spec_l1SubMag.c k)) : Fun Tryz.prog 49 (spec_l1SubMag.e k).G := fun_ok mixed (body := spec_l1SubMag.bd) Tryz.func49 (by kernel_rfl) (by kernel_rfl) (by kernel_rfl) hC (loops_all 1 (by kernel_rfl) fun i hi => by obtain rfl : i = 0 := Nat.lt_one_iff.1 hi; exact ⟨spec_l1SubMag.e4 k, by kernel_rfl, spec_l1SubMag.to4 k hC⟩) (spec_l1SubMag.e k) (fun a => Nat.le_of_ble_eq_true (by kernel_rfl)) fun a b h => (spec_l1SubMag.link k a.1 a.2.1).trans h
theorem spec_l1SubMag.ok (k : Nat) : Fun Tryz.prog 49 (spec_l1SubMag.e k).G := spec_l1SubMag.ok1 k trivial

end Go.Proofs.YtalkkenkeilmpaaGreat.G
